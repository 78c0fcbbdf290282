/- Plain: what a valid trie answers, told by its words: the words, those under a prefix, unique and shared beginnings. -/
import Derived.Test.YtcplbbflfgckbaaGreatDoorX8
import Derived.Test.YtcplbbflfgckbaaGreatDoorX10
import Derived.Test.YtcplbbflfgckbaaGreatDoorX15
import Derived.Test.YtcplbbflfgckbaaGreatDoorX16
import Derived.Test.YtcplbbflfgckbaaGreatDoorX18
import Derived.Test.YtcplbbflfgckbaaGreatDoorX27
import Derived.Test.YtcplbbflfgckbaaGreatDoorX28
import Derived.Test.YtcplbbflfgckbaaGreatDoorX29
import Derived.Test.YtcplbbflfgckbaaGreatDoorTrieE
import Derived.Test.YtcplbbflfgckbaaGreatDoorPrefs
import Derived.Test.YtcplbbflfgckbaaGreatDoorWordE
set_option linter.unusedVariables false
set_option linter.unusedSimpArgs false
namespace Go.Proofs.YtcplbbflfgckbaaGreatDoor.Pl
open Go.RowKit Go.Proofs.YtcplbbflfgckbaaGreatDoorW.PrintWords Go.Proofs.YtcplbbflfgckbaaGreatDoorW.PrintLast Go.Proofs.YtcplbbflfgckbaaGreatDoorW.PrintMore Go.Proofs.YtcplbbflfgckbaaGreatDoor.X

theorem ev_of {α : Type} {x : Option α} {r : α} (h : x = some r) : Ev (fun _ => x) r := h ▸ Ev.now r
/-- The words of a valid trie. -/
structure WOk (ws : List Wd) : Prop where
  ss : SS ws
  ok : ∀ w ∈ ws, okW w
  le : ws.length ≤ 40
theorem isT_cases (t : List ND) : (∃ ws, WOk ws ∧ t = trie ws) ∨ isT t = false := by
  cases h : isT t with
  | true =>
    obtain ⟨ws, h1, h2, h3, h4⟩ := (isT_iff t).1 h
    exact .inl ⟨ws, ⟨h1, h2, h3⟩, h4⟩
  | false => exact .inr rfl
section
variable {ws : List Wd} (h : WOk ws)
include h
theorem WOk.isT : isT (trie ws) = true := (isT_iff _).2 ⟨ws, h.ss, h.ok, h.le, rfl⟩
theorem WOk.tok : TOk (trie ws) (prefs ws) := ⟨prefP_trie h.ok h.le, fun p hp => (prefs_okW h.ok hp).1⟩
theorem WOk.len : (trie ws).length ≤ 481 := (trie_bound h.ok h.le).2
theorem WOk.size {w : Wd} (hw : w ∈ ws) : w.length ≤ 12 := (h.ok w hw).1
theorem WOk.trieT : Ev (fun k => impl_isTrie.f k (trie ws)) true := by
  have := isTrie_ev (trie ws) (by have := h.len; omega)
  rwa [h.isT] at this
theorem WOk.l2Trie : Ev (fun k => spec_l2Trie.f k (trie ws)) true := by
  have := l2Trie_ev (trie ws) (by have := h.len; omega)
  rwa [h.isT] at this
theorem WOk.l2Words : Ev (fun k => spec_l2Words.f k (trie ws)) (ws.map wb) := by
  obtain ⟨vs, h1, _, _, h4⟩ := l2Words_ev (trie ws) (by have := h.len; omega)
  rw [h4 _ h.tok, wordsP_trie h.ss] at h1
  exact h1
theorem WOk.words : Ev (fun k => impl_Trie_words.f k (trie ws)) (ws.map wb) := by
  have := words_ev h.tok.pre
  rwa [wordsP_trie h.ss] at this
end
theorem noT_i {t : List ND} (ht : t.length ≤ 2000000) (h : isT t = false) : Ev (fun k => impl_isTrie.f k t) false := by
  have := isTrie_ev t ht
  rwa [h] at this
theorem noT_s {t : List ND} (ht : t.length ≤ 2000000) (h : isT t = false) : Ev (fun k => spec_l2Trie.f k t) false := by
  have := l2Trie_ev t ht
  rwa [h] at this
theorem prefix_take {p w : Wd} : p <+: w ↔ p.length ≤ w.length ∧ w.take p.length = p := by
  constructor
  · intro h
    exact ⟨h.length_le, (List.prefix_iff_eq_take.1 h).symm⟩
  · rintro ⟨_, h2⟩
    rw [← h2]; exact List.take_prefix _ _
theorem isPrefixOf_eq (p w : Wd) : p.isPrefixOf w = (decide (p.length ≤ w.length) && (w.take p.length == p)) := by
  rw [Bool.eq_iff_iff, List.isPrefixOf_iff_prefix, prefix_take, Bool.and_eq_true, decide_eq_true_eq, beq_iff_eq]
theorem begins_eq (w : Wd) (p : ByteArray) : (decide (p.size ≤ (wb w).size) && (((wb w).extract 0 p.size).toList == p.toList)) = (bw p).isPrefixOf w := by
  rw [isPrefixOf_eq, wb_size, bw_size, extract_wb, toList_bw, toList_bw, bw_wb]
theorem map_filter_wb (ws : List Wd) (p : Wd → Bool) (q : ByteArray → Bool) (h : ∀ w, q (wb w) = p w) : (ws.map wb).filter q = (ws.filter p).map wb := by
  rw [List.filter_map]
  congr 1
  exact List.filter_congr (fun w _ => h w)
theorem l2Begins_eq (w : Wd) (p : ByteArray) : spec_l2Begins.f (wb w) p = some ((bw p).isPrefixOf w) := by
  rw [← begins_eq]
  unfold spec_l2Begins.f
  by_cases h : p.size ≤ (wb w).size
  · rw [if_pos (by omega), if_pos (by omega), if_pos (by omega), decide_eq_true h, Bool.true_and]
  · rw [if_neg (by omega), decide_eq_false h, Bool.false_and]
theorem WOk.under {ws : List Wd} (h : WOk ws) (p : ByteArray) : Ev (fun k => impl_Trie_under.f k (trie ws) p) ((underL ws (bw p)).map wb) := by
  unfold impl_Trie_under.f
  refine Ev.bind h.words (Ev.bind (a := (underL ws (bw p)).map wb) (ev_of ?_) (ev_eq rfl))
  unfold slices_DeleteFunc_string_string.f
  rw [if_neg (by have := h.le; rw [List.length_map]; omega)]
  congr 1
  refine map_filter_wb ws _ _ (fun w => ?_)
  unfold impl_Trie_under_1.f
  simp only [Option.getD_some]
  rw [begins_eq, Bool.not_not]
theorem l3Under_ev (ws : List Wd) (hl : ws.length ≤ 100000) (p : ByteArray) : Ev (fun k => spec_l3Under.f k (ws.map wb) p) ((underL ws (bw p)).map wb) := by
  unfold spec_l3Under.f
  have key : ∀ (suf pre A : List Wd), ws = pre ++ suf → A.length ≤ pre.length → Ev (fun k => spec_l3Under.l0 k (ws.map wb) p (A.map wb) pre.length) ((A ++ underL suf (bw p)).map wb) := by
    intro suf
    induction suf with
    | nil =>
      intro pre A he hA
      have hlen : pre.length = ws.length := by rw [he]; simp
      refine Ev.step (fun k => by unfold spec_l3Under.l0; rfl) (ev_neg (by rw [List.length_map]; omega) (ev_eq ?_))
      simp [underL]
    | cons x suf ih =>
      intro pre A he hA
      have hlen : ws.length = pre.length + (suf.length + 1) := by rw [he]; simp
      have hx : rdOf ByteArray.empty (ws.map wb) (pre.length : Int) = wb x := by
        rw [rdOf_map_wb ws pre.length (by omega)]
        congr 1
        subst he
        simp
      refine Ev.step (fun k => by unfold spec_l3Under.l0; rfl) (ev_pos (by rw [List.length_map]; omega) (ev_pos (by omega) ?_))
      rw [hx, l2Begins_eq, inc (by omega)]
      refine ev_some ?_
      have e1 : ((pre.length + 1 : Nat) : Int) = (((pre ++ [x]).length : Nat) : Int) := by simp
      rw [e1]
      cases hb : (bw p).isPrefixOf x with
      | true =>
        refine ev_pos rfl (ev_pos (by rw [List.length_map]; omega) ?_)
        have := ih (pre ++ [x]) (A ++ [x]) (by rw [he]; simp) (by simp; omega)
        have e2 : A ++ underL (x :: suf) (bw p) = A ++ [x] ++ underL suf (bw p) := by unfold underL; rw [List.filter_cons_of_pos hb]; simp
        rw [e2]
        rw [List.map_append] at this
        exact this
      | false =>
        refine ev_neg (by decide) ?_
        have := ih (pre ++ [x]) A (by rw [he]; simp) (by simp; omega)
        have e2 : A ++ underL (x :: suf) (bw p) = A ++ underL suf (bw p) := by unfold underL; rw [List.filter_cons_of_neg (by rw [hb]; decide)]
        rw [e2]
        exact this
  have := key ws [] [] rfl (Nat.le_refl _)
  simpa using this
theorem l3Unique_ev (ws : List Wd) (hl : ws.length ≤ 100000) (w : ByteArray) (hw : w.size ≤ 1000000) : Ev (fun k => spec_l3Unique.f k (ws.map wb) w) (wb (uniqL ws (bw w))) := by
  unfold spec_l3Unique.f uniqL
  have key : ∀ (f n : Nat), n + f = (bw w).length → Ev (fun k => spec_l3Unique.l0 k (ws.map wb) w (n : Int)) (wb (uniqFrom ws (bw w) f n)) := by
    intro f
    induction f with
    | zero =>
      intro n hn
      rw [bw_size] at hn
      refine Ev.step (fun k => by unfold spec_l3Unique.l0; rfl) (ev_neg (by omega) (ev_eq ?_))
      unfold uniqFrom
      rw [wb_bw]
    | succ f ih =>
      intro n hn
      have hn' := hn
      rw [bw_size] at hn'
      have e : w.extract 0 ((n : Int)).toNat = wb ((bw w).take n) := by
        have := extract_wb (bw w) n
        rw [wb_bw] at this
        exact this
      refine Ev.step (fun k => by unfold spec_l3Unique.l0; rfl) (ev_pos (by omega) (ev_pos (by omega) (ev_pos (by omega) ?_)))
      rw [e, inc (by omega)]
      refine Ev.bind (l3Under_ev ws hl _) ?_
      rw [bw_wb, List.length_map]
      unfold uniqFrom
      by_cases hc : (underL ws ((bw w).take n)).length = 1
      · rw [if_pos hc]; exact ev_pos (by omega) (ev_eq rfl)
      · rw [if_neg hc]; exact ev_neg (by omega) (ih (n + 1) (by omega))
  exact key (bw w).length 0 (by omega)
theorem l3Shared_ev (ws : List Wd) (hs : SS ws) (hl : ws.length ≤ 100000) (h0 : 0 < ws.length) (hz : ∀ w ∈ ws, w.length ≤ 1000000) : Ev (fun k => spec_l3Shared.f k (ws.map wb)) (wb (sharedL ws)) := by
  unfold spec_l3Shared.f
  refine ev_pos (by rw [List.length_map]; omega) ?_
  rw [show (0 : Int) = ((0 : Nat) : Int) from rfl, rdOf_map_wb ws 0 h0]
  have hmem : ws[0] ∈ ws := List.getElem_mem h0
  have hpre : sharedL ws <+: ws[0] := shared_all hs hmem
  have hsz := hz _ hmem
  have key : ∀ (d : Nat) (q : Wd), q.length = (sharedL ws).length + d → q <+: ws[0] → Ev (fun k => spec_l3Shared.l0 k (ws.map wb) (wb q)) (wb (sharedL ws)) := by
    intro d
    induction d with
    | zero =>
      intro q hq hqp
      have e : q = sharedL ws := by
        have h1 := (prefix_take.1 hqp).2
        have h2 := (prefix_take.1 hpre).2
        rw [← h1, hq, Nat.add_zero, h2]
      subst e
      refine Ev.step (fun k => by unfold spec_l3Shared.l0; rfl) (Ev.bind (l3Under_ev ws hl _) (ev_neg ?_ (ev_eq rfl)))
      rw [bw_wb, under_eq (fun w hw => shared_all hs hw)]
      omega
    | succ d ih =>
      intro q hq hqp
      have hlt : (underL ws q).length < ws.length := by
        rcases Nat.lt_or_ge (underL ws q).length ws.length with h | h
        · exact h
        · have := under_all.1 (Nat.le_antisymm (under_length ws q) h)
          have := (shared_most h0 this).length_le
          omega
      have hql := hqp.length_le
      have hqs : ((wb q).size : Int) = ((q.length : Nat) : Int) := by rw [wb_size]
      refine Ev.step (fun k => by unfold spec_l3Shared.l0; rfl) (Ev.bind (l3Under_ev ws hl _) (ev_pos ?_ ?_))
      · rw [bw_wb, List.length_map, List.length_map]; omega
      rw [hqs, w64 (x := ((q.length : Nat) : Int) - 1) (by omega) (by omega)]
      refine ev_pos (by omega) (ev_pos (by omega) ?_)
      have e : (wb q).extract 0 (((q.length : Nat) : Int) - 1).toNat = wb (q.take (q.length - 1)) := by
        rw [show (((q.length : Nat) : Int) - 1).toNat = q.length - 1 by omega]
        exact extract_wb _ _
      rw [e]
      exact ih (q.take (q.length - 1)) (by rw [List.length_take]; omega) ((List.take_prefix _ _).trans hqp)
  exact key (ws[0].length - (sharedL ws).length) ws[0] (by have := hpre.length_le; omega) (List.prefix_refl _)
theorem lcp_take : ∀ (n : Nat) (x y : Wd), n ≤ x.length → n ≤ y.length → x.take n = y.take n → (∀ (h1 : n < x.length) (h2 : n < y.length), x[n] ≠ y[n]) → lcp x y = x.take n
  | 0, [], y, _, _, _, _ => by simp [lcp]
  | 0, a :: x, [], _, _, _, _ => by simp [lcp]
  | 0, a :: x, b :: y, _, _, _, h => by
    have := h (by simp) (by simp)
    simp only [List.getElem_cons_zero] at this
    simp [lcp, this]
  | n + 1, [], y, h1, _, _, _ => absurd h1 (by simp)
  | n + 1, a :: x, [], _, h2, _, _ => absurd h2 (by simp)
  | n + 1, a :: x, b :: y, h1, h2, h3, h4 => by
    simp only [List.take_succ_cons, List.cons.injEq] at h3
    simp only [List.length_cons, Nat.add_le_add_iff_right] at h1 h2
    rw [lcp, if_pos h3.1, List.take_succ_cons, lcp_take n x y h1 h2 h3.2 (fun g1 g2 => by have := h4 (by simpa using g1) (by simpa using g2); simp only [List.getElem_cons_succ] at this; exact this)]
theorem shared_ev (ws : List Wd) (hl : ws.length ≤ 100000) (h0 : 0 < ws.length) (hz : ∀ w ∈ ws, w.length ≤ 1000000) : Ev (fun k => impl_shared.f k (ws.map wb)) (wb (sharedL ws)) := by
  unfold impl_shared.f
  rw [List.length_map, w64 (x := (ws.length : Int) - 1) (by omega) (by omega)]
  refine ev_pos (by omega) (ev_pos (by omega) (ev_pos (by omega) ?_))
  have e1 : rdOf ByteArray.empty (ws.map wb) 0 = wb (ws.getD 0 []) := getD_wb ws 0 h0
  have e2 : rdOf ByteArray.empty (ws.map wb) ((ws.length : Int) - 1) = wb (ws.getD (ws.length - 1) []) := by
    rw [show (ws.length : Int) - 1 = ((ws.length - 1 : Nat) : Int) by omega]
    exact getD_wb ws _ (by omega)
  rw [e1, e2]
  unfold sharedL
  have hx := hz _ (getD_mem' h0)
  have hy := hz _ (getD_mem' (l := ws) (i := ws.length - 1) (by omega))
  generalize ws.getD 0 [] = x at hx ⊢
  generalize ws.getD (ws.length - 1) [] = y at hy ⊢
  obtain ⟨m, hm1, hm2, hm3⟩ : ∃ m, m ≤ x.length ∧ m ≤ y.length ∧ (m = x.length ∨ m = y.length) := ⟨min x.length y.length, by omega, by omega, by omega⟩
  have key : ∀ (d n : Nat), n + d = m → x.take n = y.take n → Ev (fun k => impl_shared.l0 k (wb x) (wb y) (n : Int)) (wb (lcp x y)) := by
    intro d
    induction d with
    | zero =>
      intro n hn ht
      refine Ev.step (fun k => by unfold impl_shared.l0; rfl) (ev_neg (by rw [wb_size, wb_size]; unfold mn; split <;> omega) (ev_pos (by omega) (ev_pos (by rw [wb_size]; omega) (ev_eq ?_))))
      rw [Int.toNat_natCast, extract_wb, lcp_take n x y (by omega) (by omega) ht (fun g1 g2 => by omega)]
    | succ d ih =>
      intro n hn ht
      have hn1 : n < x.length := by omega
      have hn2 : n < y.length := by omega
      refine Ev.step (fun k => by unfold impl_shared.l0; rfl) (ev_pos (by rw [wb_size, wb_size]; unfold mn; split <;> omega) (ev_pos (by omega) (ev_pos (by rw [wb_size]; omega) (ev_pos (by rw [wb_size]; omega) ?_))))
      rw [bt_bw (s := wb x) (by rw [wb_size]; exact hn1), bt_bw (s := wb y) (by rw [wb_size]; exact hn2), inc (by omega)]
      simp only [bw_wb]
      by_cases hc : x[n] = y[n]
      · refine ev_pos (by rw [hc]) (ih (n + 1) (by omega) ?_)
        rw [List.take_succ_eq_append_getElem hn1, List.take_succ_eq_append_getElem hn2, ht, hc]
      · refine ev_neg (fun he => hc (u8_inj he)) (ev_pos (by rw [wb_size]; omega) (ev_eq ?_))
        rw [Int.toNat_natCast, extract_wb, lcp_take n x y (by omega) (by omega) ht (fun _ _ => hc)]
  exact key m 0 (by omega) rfl
theorem vTexts_ev (a b : List ByteArray) (ha : a.length ≤ 1000000000) : Ev (fun k => laws_vTexts.f k a b) (decide (a = b)) := by
  unfold laws_vTexts.f
  by_cases hl : a.length = b.length
  case neg => exact ev_neg (by omega) (ev_eq (by symm; rw [decide_eq_false_iff_not]; rintro rfl; exact hl rfl))
  refine ev_pos (by omega) ?_
  refine ev_eqlist (z := ByteArray.empty) (g := fun k i => laws_vTexts.l0 k a b (i : Nat)) hl ?_ ?_
  · exact Ev.step (fun k => by unfold laws_vTexts.l0; rfl) (ev_neg (by omega) (ev_eq rfl))
  · intro i hi R ih
    refine Ev.step (fun k => by unfold laws_vTexts.l0; rfl) (ev_pos (by omega) (ev_pos (by omega) (ev_pos (by omega) ?_)))
    rw [rdOf_nat, rdOf_nat, inc (by omega)]
    by_cases hc : a.getD i ByteArray.empty = b.getD i ByteArray.empty
    · rw [decide_eq_true hc, Bool.true_and]
      exact ev_pos (toList_inj.2 hc) ih
    · rw [decide_eq_false hc, Bool.false_and]
      exact ev_neg (fun he => hc (toList_inj.1 he)) (ev_eq rfl)
theorem containsW_ev (l : List ByteArray) (x : ByteArray) (hl : l.length ≤ 1000000000) : Ev (fun k => slices_Contains_string_string.f k l x) (decide (bw x ∈ l.map bw)) := by
  unfold slices_Contains_string_string.f slices_Index_string_string.f
  have key : ∀ m i, l.length - i = m → i ≤ l.length → ∃ r : Int, Ev (fun k => slices_Index_string_string.l0 k l x (l.length : Int) (i : Nat)) r ∧ (0 ≤ r ↔ x ∈ l.drop i) := by
    intro m
    induction m with
    | zero =>
      intro i hm hi
      refine ⟨-1, Ev.step (fun k => by unfold slices_Index_string_string.l0; rfl) (ev_neg (by omega) (ev_eq rfl)), ?_⟩
      rw [List.drop_of_length_le (by omega)]
      simp
    | succ m ih =>
      intro i hm hi
      have hi' : i < l.length := by omega
      obtain ⟨r, h1, h2⟩ := ih (i + 1) (by omega) (by omega)
      rw [drop_cons hi' ByteArray.empty, List.mem_cons]
      by_cases e : x = l.getD i ByteArray.empty
      · exact ⟨i, Ev.step (fun k => by unfold slices_Index_string_string.l0; rfl) (ev_pos (by omega) (ev_pos (by omega) (ev_pos (by omega) (ev_pos (by rw [rdOf_nat]; exact toList_inj.2 e) (ev_eq rfl))))), ⟨fun _ => .inl e, fun _ => by omega⟩⟩
      · refine ⟨r, Ev.step (fun k => by unfold slices_Index_string_string.l0; rfl) (ev_pos (by omega) (ev_pos (by omega) (ev_pos (by omega) (ev_neg (by rw [rdOf_nat]; exact fun h => e (toList_inj.1 h)) ?_)))), ⟨fun h => .inr (h2.1 h), fun h => h2.2 (h.resolve_left e)⟩⟩
        rw [inc (by omega)]
        exact h1
  obtain ⟨r, h1, h2⟩ := key _ 0 rfl (Nat.zero_le _)
  rw [List.drop_zero] at h2
  exact Ev.bind h1 (ev_eq (decide_eq_decide.2 (h2.trans mem_map_bw.symm)))
theorem WOk.has {ws : List Wd} (h : WOk ws) (w : ByteArray) : Ev (fun k => impl_Trie_has.f k (trie ws) w) (decide (bw w ∈ ws)) := by
  unfold impl_Trie_has.f
  have := containsW_ev (ws.map wb) w (by have := h.le; rw [List.length_map]; omega)
  rw [bw_map_wb] at this
  exact Ev.bind h.words (Ev.bind this (ev_eq rfl))
theorem WOk.l2Has {ws : List Wd} (h : WOk ws) (w : ByteArray) : Ev (fun k => spec_l2Has.f k (ws.map wb) w) (decide (bw w ∈ ws)) := by
  have := l2Has_ev (ws.map wb) w (by have := h.le; rw [List.length_map]; omega)
  rwa [bw_map_wb] at this
theorem areKept_ev (t : List ND) (ht : t.length ≤ 2000000) (w : ByteArray) (hw : w.size ≤ 1000000) : Ev (fun k => impl_areKept.f k t w) (isT t && decide (okW (bw w))) := by
  unfold impl_areKept.f
  refine Ev.bind (isTrie_ev t ht) ?_
  cases isT t with
  | true => exact ev_pos rfl (Ev.bind (ev_of (isWord_eq w (by omega))) (ev_eq rfl))
  | false => exact ev_neg (by decide) (ev_eq rfl)
end Go.Proofs.YtcplbbflfgckbaaGreatDoor.Pl

