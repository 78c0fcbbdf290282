/- Plain: what the questions about a trie's nodes and words answer, on both sides. -/
import Derived.Test.YtcplbbflfgckbaaGreatDoorX0
import Derived.Test.YtcplbbflfgckbaaGreatDoorX10
import Derived.Test.YtcplbbflfgckbaaGreatDoorX14
import Derived.Test.YtcplbbflfgckbaaGreatDoorX15
import Derived.Test.YtcplbbflfgckbaaGreatDoorX19
import Derived.Test.YtcplbbflfgckbaaGreatDoorX20
import Derived.Test.YtcplbbflfgckbaaGreatDoorX21
import Derived.Test.YtcplbbflfgckbaaGreatDoorX22
import Derived.Test.YtcplbbflfgckbaaGreatDoorX23
import Derived.Test.YtcplbbflfgckbaaGreatDoorX24
import Derived.Test.YtcplbbflfgckbaaGreatDoorX1
import Derived.Test.YtcplbbflfgckbaaGreatDoorX2
import Derived.Test.YtcplbbflfgckbaaGreatDoorX4
import Derived.Test.YtcplbbflfgckbaaGreatDoorX5
import Derived.Test.YtcplbbflfgckbaaGreatDoorX6
import Derived.Test.YtcplbbflfgckbaaGreatDoorX7
import Derived.Test.YtcplbbflfgckbaaGreatDoorX8
import Derived.Test.YtcplbbflfgckbaaGreatDoorX9
import Derived.Test.YtcplbbflfgckbaaGreatDoorX11
import Derived.Test.YtcplbbflfgckbaaGreatDoorX12
import Derived.Test.YtcplbbflfgckbaaGreatDoorX17
import Derived.Test.YtcplbbflfgckbaaGreatDoorWords
import Derived.Test.YtcplbbflfgckbaaGreatDoorKids
import Derived.Test.YtcplbbflfgckbaaGreatDoorGameB

set_option linter.unusedVariables false
set_option linter.unusedSimpArgs false
namespace Go.Proofs.YtcplbbflfgckbaaGreatDoor.Pl
open Go.RowKit Go.Proofs.YtcplbbflfgckbaaGreatDoorW.PrintWords Go.Proofs.YtcplbbflfgckbaaGreatDoorW.PrintLast Go.Proofs.YtcplbbflfgckbaaGreatDoorW.PrintMore Go.Proofs.YtcplbbflfgckbaaGreatDoor.X

theorem WOk.gok {ws : List Wd} (h : WOk ws) : GOk (trie ws) (prefs ws) := gok_trie h.ok h.le
/-- A place of a row of n. -/
def isAt (n : Nat) (i : Int) : Prop := 0 ≤ i ∧ i < (n : Int)
instance (n : Nat) (i : Int) : Decidable (isAt n i) := inferInstanceAs (Decidable (_ ∧ _))
theorem isAt.nat {n : Nat} {i : Int} (h : isAt n i) : ∃ j : Nat, i = j ∧ j < n := ⟨i.toNat, by have := h.1; omega, by have := h.1; have := h.2; omega⟩
theorem isNode_ev (t : List ND) (ht : t.length ≤ 2000000) (i : Int) : Ev (fun k => impl_isNode.f k t i) (decide (isAt t.length i) && isT t) := by
  unfold impl_isNode.f
  rw [w64 (by omega) (by omega), in_eq]
  refine ev_some ?_
  by_cases h : isAt t.length i
  · rw [decide_eq_true h, Bool.true_and]
    exact ev_pos (decide_eq_true (by unfold isAt at h; omega)) (Ev.bind (isTrie_ev t ht) (ev_eq rfl))
  · rw [decide_eq_false h, Bool.false_and]
    exact ev_neg (by rw [decide_eq_true_eq]; unfold isAt at h; omega) (ev_eq rfl)
theorem WOk.isNode {ws : List Wd} (h : WOk ws) (i : Int) : Ev (fun k => impl_isNode.f k (trie ws) i) (decide (isAt (trie ws).length i)) := by
  have := isNode_ev (trie ws) (by have := h.len; omega) i
  rwa [h.isT, Bool.and_true] at this
theorem l2Good_at (t : List ND) (ht : t.length ≤ 2000000) (i : Int) : Ev (fun k => spec_l2Good.f k t i) (isT t && decide (isAt t.length i)) := l2Good_ev t ht i
theorem WOk.good {ws : List Wd} (h : WOk ws) (i : Int) : Ev (fun k => spec_l2Good.f k (trie ws) i) (decide (isAt (trie ws).length i)) := by
  have := l2Good_at (trie ws) (by have := h.len; omega) i
  rwa [h.isT, Bool.true_and] at this
def prefixR (ws : List Wd) (i : Int) : ByteArray × Bool := if isAt (trie ws).length i then (wb ((prefs ws).getD i.toNat []), true) else (⟨#[]⟩, false)
theorem prefixes_ok {ws : List Wd} (h : WOk ws) : Ev (fun k => impl_Trie_prefixes.f k (trie ws)) ((prefs ws).map wb, true) := by
  have := prefixes_ev (trie ws) (by have := h.len; omega)
  rwa [h.tok.pre] at this
theorem prefixOf_i {ws : List Wd} (h : WOk ws) (i : Int) : Ev (fun k => impl_PrefixOf.f k (trie ws) i) (prefixR ws i) := by
  unfold impl_PrefixOf.f prefixR
  refine Ev.bind (h.isNode i) ?_
  by_cases hi : isAt (trie ws).length i
  · rw [if_pos hi]
    obtain ⟨j, rfl, hj⟩ := hi.nat
    have hpl := h.gok.plen
    refine ev_pos (decide_eq_true hi) (Ev.bind (prefixes_ok h) (ev_pos (by omega) (ev_pos (by rw [List.length_map]; omega) ?_)))
    rw [getD_wb _ _ (by omega)]
    exact ev_eq rfl
  · rw [if_neg hi]
    exact ev_neg (by rw [decide_eq_true_eq]; exact hi) (ev_eq rfl)
theorem prefixOf_s {ws : List Wd} (h : WOk ws) (i : Int) : Ev (fun k => spec_PrefixOf.f k (trie ws) i) (prefixR ws i) := by
  unfold spec_PrefixOf.f prefixR
  refine Ev.bind (h.good i) ?_
  by_cases hi : isAt (trie ws).length i
  · rw [if_pos hi]
    obtain ⟨j, rfl, hj⟩ := hi.nat
    refine ev_pos (decide_eq_true hi) (Ev.bind (l2Prefix_ok h.tok j hj) ?_)
    exact ev_eq rfl
  · rw [if_neg hi]
    exact ev_neg (by rw [decide_eq_true_eq]; exact hi) (ev_eq rfl)
theorem prefixOf_i0 {t : List ND} (ht : t.length ≤ 2000000) (h : isT t = false) (i : Int) : Ev (fun k => impl_PrefixOf.f k t i) (⟨#[]⟩, false) := by
  unfold impl_PrefixOf.f
  have := isNode_ev t ht i
  rw [h, Bool.and_false] at this
  exact Ev.bind this (ev_neg (by decide) (ev_eq rfl))
theorem prefixOf_s0 {t : List ND} (ht : t.length ≤ 2000000) (h : isT t = false) (i : Int) : Ev (fun k => spec_PrefixOf.f k t i) (⟨#[]⟩, false) := by
  unfold spec_PrefixOf.f
  have := l2Good_at t ht i
  rw [h, Bool.false_and] at this
  exact Ev.bind this (ev_neg (by decide) (ev_eq rfl))
def kidsR (ws : List Wd) (i : Int) : List Int × Bool := if isAt (trie ws).length i then (ints (kids (trie ws) i.toNat), true) else ([], false)
theorem kidsOf_i {ws : List Wd} (h : WOk ws) (i : Int) : Ev (fun k => impl_KidsOf.f k (trie ws) i) (kidsR ws i) := by
  unfold impl_KidsOf.f kidsR
  refine Ev.bind (h.isNode i) ?_
  by_cases hi : isAt (trie ws).length i
  · rw [if_pos hi]
    obtain ⟨j, rfl, hj⟩ := hi.nat
    refine ev_pos (decide_eq_true hi) (Ev.bind (kids_ev (by have := h.len; omega) j) ?_)
    exact ev_eq rfl
  · rw [if_neg hi]
    exact ev_neg (by rw [decide_eq_true_eq]; exact hi) (ev_eq rfl)
theorem kidsOf_s {ws : List Wd} (h : WOk ws) (i : Int) : Ev (fun k => spec_KidsOf.f k (trie ws) i) (kidsR ws i) := by
  unfold spec_KidsOf.f kidsR
  refine Ev.bind (h.good i) ?_
  by_cases hi : isAt (trie ws).length i
  · rw [if_pos hi]
    obtain ⟨j, rfl, hj⟩ := hi.nat
    refine ev_pos (decide_eq_true hi) (Ev.bind (l2Kids_ev h.gok hj) ?_)
    exact ev_eq rfl
  · rw [if_neg hi]
    exact ev_neg (by rw [decide_eq_true_eq]; exact hi) (ev_eq rfl)
theorem kidsOf_i0 {t : List ND} (ht : t.length ≤ 2000000) (h : isT t = false) (i : Int) : Ev (fun k => impl_KidsOf.f k t i) ([], false) := by
  unfold impl_KidsOf.f
  have := isNode_ev t ht i
  rw [h, Bool.and_false] at this
  exact Ev.bind this (ev_neg (by decide) (ev_eq rfl))
theorem kidsOf_s0 {t : List ND} (ht : t.length ≤ 2000000) (h : isT t = false) (i : Int) : Ev (fun k => spec_KidsOf.f k t i) ([], false) := by
  unfold spec_KidsOf.f
  have := l2Good_at t ht i
  rw [h, Bool.false_and] at this
  exact Ev.bind this (ev_neg (by decide) (ev_eq rfl))
def countUnderR (ws : List Wd) (i : Int) : Int × Bool := if isAt (trie ws).length i then (((underL ws ((prefs ws).getD i.toNat [])).length : Nat), true) else (0, false)
theorem countUnder_i {ws : List Wd} (h : WOk ws) (i : Int) : Ev (fun k => impl_CountUnder.f k (trie ws) i) (countUnderR ws i) := by
  unfold impl_CountUnder.f countUnderR
  refine Ev.bind (prefixOf_i h i) ?_
  unfold prefixR
  by_cases hi : isAt (trie ws).length i
  · rw [if_pos hi, if_pos hi]
    refine ev_pos rfl (Ev.bind (h.under _) ?_)
    rw [bw_wb, List.length_map]
    exact ev_eq rfl
  · rw [if_neg hi, if_neg hi]
    exact ev_neg (by decide) (ev_eq rfl)
theorem countUnder_i0 {t : List ND} (ht : t.length ≤ 2000000) (h : isT t = false) (i : Int) : Ev (fun k => impl_CountUnder.f k t i) (0, false) := by
  unfold impl_CountUnder.f
  exact Ev.bind (prefixOf_i0 ht h i) (ev_neg (by decide) (ev_eq rfl))
theorem l2Under_ev {ws : List Wd} (h : WOk ws) {j : Nat} (hj : j < (trie ws).length) : Ev (fun k => spec_l2Under.f k (trie ws) j) ((underL ws ((prefs ws).getD j [])).map wb) := by
  unfold spec_l2Under.f
  refine Ev.bind h.l2Words (Ev.bind (l2Prefix_ok h.tok j hj) ?_)
  generalize (prefs ws).getD j [] = q
  have hle := h.le
  have key : ∀ (suf pre A : List Wd), ws = pre ++ suf → A.length ≤ pre.length → Ev (fun k => spec_l2Under.l0 k (A.map wb) (ws.map wb) (wb q) pre.length) ((A ++ underL suf q).map wb) := by
    intro suf
    induction suf with
    | nil =>
      intro pre A he hA
      have hlen : pre.length = ws.length := by rw [he]; simp
      refine Ev.step (fun k => by unfold spec_l2Under.l0; rfl) (ev_neg (by rw [List.length_map]; omega) (ev_eq ?_))
      simp [underL]
    | cons x suf ih =>
      intro pre A he hA
      have hlen : ws.length = pre.length + (suf.length + 1) := by rw [he]; simp
      have hx : rdOf ByteArray.empty (ws.map wb) (pre.length : Int) = wb x := by
        rw [rdOf_map_wb ws pre.length (by omega)]
        congr 1
        subst he
        simp
      refine Ev.step (fun k => by unfold spec_l2Under.l0; rfl) (ev_pos (by rw [List.length_map]; omega) (ev_pos (by omega) ?_))
      rw [hx, l2Begins_eq, inc (by omega), bw_wb]
      refine ev_some ?_
      have e1 : ((pre.length + 1 : Nat) : Int) = (((pre ++ [x]).length : Nat) : Int) := by simp
      rw [e1]
      cases hb : q.isPrefixOf x with
      | true =>
        refine ev_pos rfl (ev_pos (by rw [List.length_map]; omega) ?_)
        have := ih (pre ++ [x]) (A ++ [x]) (by rw [he]; simp) (by simp; omega)
        have e2 : A ++ underL (x :: suf) q = A ++ [x] ++ underL suf q := by unfold underL; rw [List.filter_cons_of_pos hb]; simp
        rw [e2]
        rw [List.map_append] at this
        exact this
      | false =>
        refine ev_neg (by decide) ?_
        have := ih (pre ++ [x]) A (by rw [he]; simp) (by simp; omega)
        have e2 : A ++ underL (x :: suf) q = A ++ underL suf q := by unfold underL; rw [List.filter_cons_of_neg (by rw [hb]; decide)]
        rw [e2]
        exact this
  have := key ws [] [] rfl (Nat.le_refl _)
  simpa using this
theorem countUnder_s {ws : List Wd} (h : WOk ws) (i : Int) : Ev (fun k => spec_CountUnder.f k (trie ws) i) (countUnderR ws i) := by
  unfold spec_CountUnder.f countUnderR
  refine Ev.bind (h.good i) ?_
  by_cases hi : isAt (trie ws).length i
  · rw [if_pos hi]
    obtain ⟨j, rfl, hj⟩ := hi.nat
    refine ev_pos (decide_eq_true hi) (Ev.bind (l2Under_ev h hj) ?_)
    rw [List.length_map]
    exact ev_eq rfl
  · rw [if_neg hi]
    exact ev_neg (by rw [decide_eq_true_eq]; exact hi) (ev_eq rfl)
theorem countUnder_s0 {t : List ND} (ht : t.length ≤ 2000000) (h : isT t = false) (i : Int) : Ev (fun k => spec_CountUnder.f k t i) (0, false) := by
  unfold spec_CountUnder.f
  have := l2Good_at t ht i
  rw [h, Bool.false_and] at this
  exact Ev.bind this (ev_neg (by decide) (ev_eq rfl))
def nodeR (ws : List Wd) (p : ByteArray) : Int × Bool := if bw p ∈ prefs ws then (((prefs ws).idxOf (bw p) : Nat), true) else (0, false)
theorem idx_at : ∀ (l : List Wd) (i : Nat) (hi : i < l.length) (x : Wd), x ∉ l.take i → l[i] = x → l.idxOf x = i
  | a :: l, 0, _, x, _, h => by
    simp only [List.getElem_cons_zero] at h
    rw [h, List.idxOf_cons_self]
  | a :: l, i + 1, hi, x, hn, h => by
    rw [List.take_succ_cons, List.mem_cons, not_or] at hn
    have := idx_at l i (by simpa using hi) x hn.2 (by simpa using h)
    rw [List.idxOf_cons, this]
    have : (a == x) = false := by rw [beq_eq_false_iff_ne]; exact fun e => hn.1 e.symm
    rw [this]; rfl
theorem indexW_ev (P : List Wd) (hl : P.length ≤ 1000000) (p : ByteArray) : Ev (fun k => slices_Index_string_string.f k (P.map wb) p) (if bw p ∈ P then (P.idxOf (bw p) : Int) else -1) := by
  unfold slices_Index_string_string.f
  have key : ∀ m i, P.length - i = m → i ≤ P.length → bw p ∉ P.take i → Ev (fun k => slices_Index_string_string.l0 k (P.map wb) p ((P.map wb).length : Int) (i : Nat)) (if bw p ∈ P then (P.idxOf (bw p) : Int) else -1) := by
    intro m
    induction m with
    | zero =>
      intro i hm hi hn
      rw [List.take_of_length_le (by omega)] at hn
      rw [if_neg hn]
      exact Ev.step (fun k => by unfold slices_Index_string_string.l0; rfl) (ev_neg (by rw [List.length_map]; omega) (ev_eq rfl))
    | succ m ih =>
      intro i hm hi hn
      have hi' : i < P.length := by omega
      have hx : rdOf ByteArray.empty (P.map wb) (i : Int) = wb P[i] := rdOf_map_wb P i hi'
      by_cases e : bw p = P[i]
      · have hmem : bw p ∈ P := e ▸ List.getElem_mem hi'
        have hidx : P.idxOf (bw p) = i := by
          exact idx_at P i hi' _ hn e.symm
        rw [if_pos hmem, hidx]
        exact Ev.step (fun k => by unfold slices_Index_string_string.l0; rfl) (ev_pos (by rw [List.length_map]; omega) (ev_pos (by omega) (ev_pos (by rw [List.length_map]; omega) (ev_pos (by rw [hx, ← e, wb_bw]) (ev_eq rfl)))))
      · refine Ev.step (fun k => by unfold slices_Index_string_string.l0; rfl) (ev_pos (by rw [List.length_map]; omega) (ev_pos (by omega) (ev_pos (by rw [List.length_map]; omega) (ev_neg (by rw [hx]; intro h; exact e (by have := toList_inj.1 h; rw [this, bw_wb])) ?_))))
        rw [inc (by omega)]
        refine ih (i + 1) (by omega) (by omega) ?_
        rw [List.take_succ_eq_append_getElem hi', List.mem_append, List.mem_singleton]
        rintro (h | h)
        · exact hn h
        · exact e h
  exact key _ 0 rfl (Nat.zero_le _) (by simp)
theorem nodeOf_i {ws : List Wd} (h : WOk ws) (p : ByteArray) : Ev (fun k => impl_NodeOf.f k (trie ws) p) (nodeR ws p) := by
  unfold impl_NodeOf.f nodeR
  have hpl := h.gok.plen
  have hl := h.len
  refine Ev.bind h.trieT (ev_pos rfl (Ev.bind (prefixes_ok h) (Ev.bind (indexW_ev (prefs ws) (by omega) p) (ev_eq ?_))))
  by_cases hp : bw p ∈ prefs ws
  · rw [if_pos hp, if_pos hp]
    have : mx ((prefs ws).idxOf (bw p) : Int) 0 = ((prefs ws).idxOf (bw p) : Nat) := by unfold mx; split <;> omega
    rw [this, decide_eq_true (by omega)]
  · rw [if_neg hp, if_neg hp]
    rfl
theorem idx_of_getD {P : List Wd} (hn : P.Nodup) {i : Nat} (hi : i < P.length) {q : Wd} (e : P.getD i [] = q) : P.idxOf q = i := by
  rw [List.getD_eq_getElem?_getD, List.getElem?_eq_getElem hi, Option.getD_some] at e
  refine idx_at P i hi q (fun hm => ?_) e
  obtain ⟨j, hj, hje⟩ := List.getElem_of_mem hm
  rw [List.length_take] at hj
  rw [List.getElem_take] at hje
  exact List.pairwise_iff_getElem.1 hn j i (by omega) hi (by omega) (hje.trans e.symm)
theorem nodeOf_s {ws : List Wd} (h : WOk ws) (p : ByteArray) (hp : p.size ≤ 1000000) : Ev (fun k => spec_NodeOf.f k (trie ws) p) (nodeR ws p) := by
  unfold spec_NodeOf.f nodeR
  have hpl := h.gok.plen
  have hl := h.len
  refine Ev.bind h.l2Trie (ev_pos rfl (Ev.bind (l2Word_ev p (by omega)) ?_))
  by_cases hw : okW (bw p)
  · rw [decide_eq_true hw]
    refine Ev.step (fun k => by unfold spec_NodeOf.j0; rfl) (ev_neg (by decide) ?_)
    obtain ⟨r, h1, h2⟩ := l2Node_at h.gok p (by omega)
    refine Ev.bind h1 ?_
    unfold spec_l1Most.f
    rcases h2 with ⟨i, rfl, hi, e⟩ | ⟨rfl, hn⟩
    · have hmem : bw p ∈ prefs ws := e ▸ h.gok.mem hi
      rw [if_pos hmem, idx_of_getD h.gok.nod (by omega) e]
      by_cases h0 : (i : Int) > 0
      · rw [if_pos h0]; exact ev_some (ev_eq (by rw [decide_eq_true (by omega)]))
      · rw [if_neg h0]; exact ev_some (ev_eq (by rw [decide_eq_true (by omega), show (i : Int) = 0 by omega]))
    · rw [if_neg hn]
      exact ev_some (ev_eq rfl)
  · rw [decide_eq_false hw, if_neg (fun hm => hw (prefs_okW h.ok hm))]
    exact Ev.step (fun k => by unfold spec_NodeOf.j0; rfl) (ev_pos rfl (ev_eq rfl))
theorem nodeOf_i0 {t : List ND} (ht : t.length ≤ 2000000) (h : isT t = false) (p : ByteArray) : Ev (fun k => impl_NodeOf.f k t p) (0, false) := by
  unfold impl_NodeOf.f
  exact Ev.bind (noT_i ht h) (ev_neg (by decide) (ev_eq rfl))
theorem nodeOf_s0 {t : List ND} (ht : t.length ≤ 2000000) (h : isT t = false) (p : ByteArray) : Ev (fun k => spec_NodeOf.f k t p) (0, false) := by
  unfold spec_NodeOf.f
  exact Ev.bind (noT_s ht h) (ev_neg (by decide) (Ev.step (fun k => by unfold spec_NodeOf.j0; rfl) (ev_pos rfl (ev_eq rfl))))
def wordAtR (ws : List Wd) (i : Int) : ByteArray × Bool := if isAt ws.length i then (wb (ws.getD i.toNat []), true) else (⟨#[]⟩, false)
theorem wordAt_i {ws : List Wd} (h : WOk ws) (i : Int) : Ev (fun k => impl_WordAt.f k (trie ws) i) (wordAtR ws i) := by
  unfold impl_WordAt.f wordAtR
  have hle := h.le
  refine Ev.bind h.trieT (ev_pos rfl (Ev.bind h.words ?_))
  rw [List.length_map, w64 (by omega) (by omega), in_eq]
  refine ev_some ?_
  by_cases hi : isAt ws.length i
  · rw [if_pos hi]
    obtain ⟨j, rfl, hj⟩ := hi.nat
    refine ev_pos (decide_eq_true (by omega)) (Ev.bind h.words (ev_pos (by omega) (ev_pos (by rw [List.length_map]; omega) ?_)))
    rw [getD_wb _ _ hj]
    exact ev_eq rfl
  · rw [if_neg hi]
    exact ev_neg (by rw [decide_eq_true_eq]; unfold isAt at hi; omega) (ev_eq rfl)
theorem wordAt_s {ws : List Wd} (h : WOk ws) (i : Int) : Ev (fun k => spec_WordAt.f k (trie ws) i) (wordAtR ws i) := by
  unfold spec_WordAt.f wordAtR
  have hle := h.le
  refine Ev.bind h.l2Trie (ev_pos rfl (Ev.bind h.l2Words ?_))
  rw [List.length_map, w64 (by omega) (by omega), l1In_eq]
  refine ev_some ?_
  by_cases hi : isAt ws.length i
  · rw [if_pos hi]
    obtain ⟨j, rfl, hj⟩ := hi.nat
    refine ev_pos (decide_eq_true (by omega)) (ev_pos (by omega) (ev_pos (by omega) ?_))
    rw [getD_wb _ _ hj]
    exact ev_eq rfl
  · rw [if_neg hi]
    exact ev_neg (by rw [decide_eq_true_eq]; unfold isAt at hi; omega) (ev_eq rfl)
theorem wordAt_i0 {t : List ND} (ht : t.length ≤ 2000000) (h : isT t = false) (i : Int) : Ev (fun k => impl_WordAt.f k t i) (⟨#[]⟩, false) := by
  unfold impl_WordAt.f
  exact Ev.bind (noT_i ht h) (ev_neg (by decide) (ev_eq rfl))
theorem wordAt_s0 {t : List ND} (ht : t.length ≤ 2000000) (h : isT t = false) (i : Int) : Ev (fun k => spec_WordAt.f k t i) (⟨#[]⟩, false) := by
  unfold spec_WordAt.f
  exact Ev.bind (noT_s ht h) (ev_neg (by decide) (ev_eq rfl))
/-- The most letters of a word. -/
def deepL (ws : List Wd) : Nat := ws.foldl (fun m w => max m w.length) 0
theorem deep_acc (ws : List Wd) : ∀ a : Nat, a ≤ ws.foldl (fun m w => max m w.length) a := by
  induction ws with
  | nil => exact fun a => Nat.le_refl _
  | cons x ws ih => exact fun a => Nat.le_trans (Nat.le_max_left _ _) (ih _)
theorem le_deep {ws : List Wd} {w : Wd} (h : w ∈ ws) : w.length ≤ deepL ws := by
  unfold deepL
  generalize 0 = a
  induction ws generalizing a with
  | nil => cases h
  | cons x ws ih =>
    rcases List.mem_cons.1 h with rfl | h
    · exact Nat.le_trans (Nat.le_max_right a _) (deep_acc ws _)
    · exact ih h _
theorem depth_i {ws : List Wd} (h : WOk ws) : Ev (fun k => impl_DepthOf.f k (trie ws)) ((deepL ws : Int), true) := by
  unfold impl_DepthOf.f
  have hle := h.le
  refine Ev.bind h.trieT (ev_pos rfl (Ev.bind h.words ?_))
  have key : ∀ (suf pre : List Wd) (a : Nat), ws = pre ++ suf → Ev (fun k => impl_DepthOf.l0 k (a : Int) (ws.map wb) ((ws.map wb).length : Int) pre.length) (((suf.foldl (fun m w => max m w.length) a : Nat) : Int), true) := by
    intro suf
    induction suf with
    | nil =>
      intro pre a he
      have hlen : pre.length = ws.length := by rw [he]; simp
      exact Ev.step (fun k => by unfold impl_DepthOf.l0; rfl) (ev_neg (by rw [List.length_map]; omega) (ev_eq rfl))
    | cons x suf ih =>
      intro pre a he
      have hlen : ws.length = pre.length + (suf.length + 1) := by rw [he]; simp
      have hx : rdOf ByteArray.empty (ws.map wb) (pre.length : Int) = wb x := by
        rw [rdOf_map_wb ws pre.length (by omega)]; congr 1; subst he; simp
      refine Ev.step (fun k => by unfold impl_DepthOf.l0; rfl) (ev_pos (by rw [List.length_map]; omega) (ev_pos (by omega) (ev_pos (by rw [List.length_map]; omega) ?_)))
      rw [hx, wb_size, inc (by omega), show mx (a : Int) (x.length : Int) = ((max a x.length : Nat) : Int) by unfold mx; split <;> omega]
      have := ih (pre ++ [x]) (max a x.length) (by rw [he]; simp)
      rw [List.length_append] at this
      exact this
  exact key ws [] 0 rfl
theorem depth_s {ws : List Wd} (h : WOk ws) : Ev (fun k => spec_DepthOf.f k (trie ws)) ((deepL ws : Int), true) := by
  unfold spec_DepthOf.f
  have hle := h.le
  refine Ev.bind h.l2Trie (ev_pos rfl (Ev.bind h.l2Words ?_))
  have key : ∀ (suf pre : List Wd) (a : Nat), ws = pre ++ suf → Ev (fun k => spec_DepthOf.l0 k (a : Int) (ws.map wb) pre.length) (((suf.foldl (fun m w => max m w.length) a : Nat) : Int), true) := by
    intro suf
    induction suf with
    | nil =>
      intro pre a he
      have hlen : pre.length = ws.length := by rw [he]; simp
      exact Ev.step (fun k => by unfold spec_DepthOf.l0; rfl) (ev_neg (by rw [List.length_map]; omega) (ev_eq rfl))
    | cons x suf ih =>
      intro pre a he
      have hlen : ws.length = pre.length + (suf.length + 1) := by rw [he]; simp
      have hx : rdOf ByteArray.empty (ws.map wb) (pre.length : Int) = wb x := by
        rw [rdOf_map_wb ws pre.length (by omega)]; congr 1; subst he; simp
      refine Ev.step (fun k => by unfold spec_DepthOf.l0; rfl) (ev_pos (by rw [List.length_map]; omega) (ev_pos (by omega) ?_))
      have em : spec_l1Most.f (a : Int) (x.length : Int) = some ((max a x.length : Nat) : Int) := by unfold spec_l1Most.f; split <;> congr 1 <;> omega
      rw [hx, wb_size, inc (by omega), em]
      have := ih (pre ++ [x]) (max a x.length) (by rw [he]; simp)
      rw [List.length_append] at this
      exact ev_some this
  exact key ws [] 0 rfl
theorem depth_i0 {t : List ND} (ht : t.length ≤ 2000000) (h : isT t = false) : Ev (fun k => impl_DepthOf.f k t) (0, false) := by
  unfold impl_DepthOf.f
  exact Ev.bind (noT_i ht h) (ev_neg (by decide) (ev_eq rfl))
theorem depth_s0 {t : List ND} (ht : t.length ≤ 2000000) (h : isT t = false) : Ev (fun k => spec_DepthOf.f k t) (0, false) := by
  unfold spec_DepthOf.f
  exact Ev.bind (noT_s ht h) (ev_neg (by decide) (ev_eq rfl))
/-- How many words come before w. -/
def rankL (ws : List Wd) (w : Wd) : Nat := (ws.filter fun v => decide (v < w)).length
def rankR (ws : List Wd) (w : ByteArray) : Int × Bool := if okW (bw w) then ((rankL ws (bw w) : Nat), true) else (0, false)
theorem rank_of {ws : List Wd} {w : Wd} {i : Nat} (hi : i ≤ ws.length) (h1 : ∀ j (hj : j < ws.length), j < i → ws[j] < w) (h2 : ∀ j (hj : j < ws.length), i ≤ j → ¬ ws[j] < w) : rankL ws w = i := by
  unfold rankL
  have e1 : (ws.take i).filter (fun v => decide (v < w)) = ws.take i := List.filter_eq_self.2 (fun v hv => by
    obtain ⟨j, hj, rfl⟩ := List.getElem_of_mem hv
    rw [List.length_take] at hj
    rw [List.getElem_take, decide_eq_true_eq]
    exact h1 j (by omega) (by omega))
  have e2 : (ws.drop i).filter (fun v => decide (v < w)) = [] := List.filter_eq_nil_iff.2 (fun v hv => by
    obtain ⟨j, hj, rfl⟩ := List.getElem_of_mem hv
    rw [List.length_drop] at hj
    rw [List.getElem_drop, decide_eq_true_eq]
    exact h2 (i + j) (by omega) (by omega))
  rw [← List.take_append_drop i ws, List.filter_append, e1, e2, List.append_nil, List.length_take]
  omega
theorem rank_at {ws : List Wd} (h : SS ws) {k : Nat} (hk : k < ws.length) : rankL ws ws[k] = k :=
  rank_of (by omega) (fun j hj hjk => List.pairwise_iff_getElem.1 h j k hj hk hjk) (fun j hj hkj hlt => by
    rcases Nat.lt_or_ge k j with h1 | h1
    · exact lt_irr _ (lt_tr hlt (List.pairwise_iff_getElem.1 h k j hk hj h1))
    · obtain rfl : j = k := by omega
      exact lt_irr _ hlt)
theorem rank_i {ws : List Wd} (h : WOk ws) (w : ByteArray) (hw : w.size ≤ 1000000) : Ev (fun k => impl_RankOf.f k (trie ws) w) (rankR ws w) := by
  unfold impl_RankOf.f rankR
  have hk := areKept_ev (trie ws) (by have := h.len; omega) w hw
  rw [h.isT, Bool.true_and] at hk
  refine Ev.bind hk ?_
  by_cases hm : okW (bw w)
  · rw [if_pos hm]
    obtain ⟨i, h1, h2, h3, h4⟩ := search_at ws (by have := h.le; omega) (h.ss.imp (fun h => le_of_lt' h)) w
    rw [rank_of h2 h3 h4]
    exact ev_pos (decide_eq_true hm) (Ev.bind h.words (Ev.bind h1 (ev_eq rfl)))
  · rw [if_neg hm]
    exact ev_neg (by rw [decide_eq_true_eq]; exact hm) (ev_eq rfl)
theorem rank_s {ws : List Wd} (h : WOk ws) (w : ByteArray) (hw : w.size ≤ 1000000) : Ev (fun k => spec_RankOf.f k (trie ws) w) (rankR ws w) := by
  unfold spec_RankOf.f rankR
  have hle := h.le
  refine Ev.bind h.l2Trie (ev_pos rfl (Ev.bind (l2Word_ev w (by omega)) ?_))
  by_cases hm : okW (bw w)
  · rw [if_pos hm, decide_eq_true hm]
    refine Ev.step (fun k => by unfold spec_RankOf.j0; rfl) (ev_neg (by decide) (Ev.bind h.l2Words ?_))
    have key : ∀ (suf pre : List Wd) (a : Nat), ws = pre ++ suf → a ≤ pre.length → Ev (fun k => spec_RankOf.l0 k w (a : Int) (ws.map wb) pre.length) (((a + rankL suf (bw w) : Nat) : Int), true) := by
      intro suf
      induction suf with
      | nil =>
        intro pre a he ha
        have hlen : pre.length = ws.length := by rw [he]; simp
        exact Ev.step (fun k => by unfold spec_RankOf.l0; rfl) (ev_neg (by rw [List.length_map]; omega) (ev_eq rfl))
      | cons x suf ih =>
        intro pre a he ha
        have hlen : ws.length = pre.length + (suf.length + 1) := by rw [he]; simp
        have hx : rdOf ByteArray.empty (ws.map wb) (pre.length : Int) = wb x := by
          rw [rdOf_map_wb ws pre.length (by omega)]; congr 1; subst he; simp
        have hxl : x.length ≤ 12 := h.size (by rw [he]; simp)
        have hb := l2Before_ev (wb x) w (by rw [wb_size]; omega) (by omega)
        rw [bw_wb] at hb
        refine Ev.step (fun k => by unfold spec_RankOf.l0; rfl) (ev_pos (by rw [List.length_map]; omega) (ev_pos (by omega) ?_))
        rw [hx, inc (by omega), inc (by omega)]
        refine Ev.bind hb ?_
        have e1 : ((pre.length + 1 : Nat) : Int) = (((pre ++ [x]).length : Nat) : Int) := by simp
        rw [e1]
        by_cases hc : x < bw w
        · have e2 : a + rankL (x :: suf) (bw w) = a + 1 + rankL suf (bw w) := by unfold rankL; rw [List.filter_cons_of_pos (p := fun v => decide (v < bw w)) (decide_eq_true hc), List.length_cons]; omega
          rw [e2]
          exact ev_pos (decide_eq_true hc) (ih (pre ++ [x]) (a + 1) (by rw [he]; simp) (by simp; omega))
        · have e2 : rankL (x :: suf) (bw w) = rankL suf (bw w) := by unfold rankL; rw [List.filter_cons_of_neg (p := fun v => decide (v < bw w)) (by rw [decide_eq_true_eq]; exact hc)]
          rw [e2]
          exact ev_neg (by rw [decide_eq_true_eq]; exact hc) (ih (pre ++ [x]) a (by rw [he]; simp) (by simp; omega))
    have := key ws [] 0 rfl (Nat.le_refl _)
    rwa [Nat.zero_add] at this
  · rw [if_neg hm, decide_eq_false hm]
    exact Ev.step (fun k => by unfold spec_RankOf.j0; rfl) (ev_pos rfl (ev_eq rfl))
theorem rank_i0 {t : List ND} (ht : t.length ≤ 2000000) (h : isT t = false) (w : ByteArray) (hw : w.size ≤ 1000000) : Ev (fun k => impl_RankOf.f k t w) (0, false) := by
  unfold impl_RankOf.f
  have hk := areKept_ev t ht w hw
  rw [h, Bool.false_and] at hk
  exact Ev.bind hk (ev_neg (by decide) (ev_eq rfl))
theorem rank_s0 {t : List ND} (ht : t.length ≤ 2000000) (h : isT t = false) (w : ByteArray) : Ev (fun k => spec_RankOf.f k t w) (0, false) := by
  unfold spec_RankOf.f
  exact Ev.bind (noT_s ht h) (ev_neg (by decide) (Ev.step (fun k => by unfold spec_RankOf.j0; rfl) (ev_pos rfl (ev_eq rfl))))
/-- All letters of all words. -/
def sumL (ws : List Wd) : Nat := (ws.map List.length).sum
theorem inits_length (w : Wd) : (inits w).length = w.length := by simp [inits]
theorem flat_sum (ws : List Wd) : (ws.flatMap inits).length = sumL ws := by
  unfold sumL
  induction ws with
  | nil => rfl
  | cons x ws ih => rw [List.flatMap_cons, List.length_append, ih, inits_length, List.map_cons, List.sum_cons]
theorem nodes_sum {ws : List Wd} (h : WOk ws) : (trie ws).length ≤ sumL ws + 1 := by
  rw [trie_length]
  have := setW_length ([] :: ws.flatMap inits)
  rw [List.length_cons, flat_sum] at this
  exact this
theorem sum_le {ws : List Wd} (h : WOk ws) : sumL ws ≤ 480 := by
  have h1 : sumL ws ≤ ws.length * 12 := by
    unfold sumL
    have := h.ok
    clear h
    induction ws with
    | nil => exact Nat.le_refl _
    | cons x ws ih =>
      rw [List.map_cons, List.sum_cons, List.length_cons]
      have := ih (fun w hw => this w (List.mem_cons_of_mem _ hw))
      have := (‹∀ w ∈ x :: ws, okW w› x List.mem_cons_self).1
      omega
  have := h.le
  omega
theorem join_nil (ws : List Wd) : (Lib.join ws []).length = sumL ws := by
  unfold sumL
  induction ws with
  | nil => rfl
  | cons x ws ih =>
    cases ws with
    | nil => simp [Lib.join]
    | cons y ws =>
      rw [List.map_cons, List.sum_cons, ← ih]
      simp [Lib.join]
def saveR (ws : List Wd) : Int × Bool := ((sumL ws : Int) - ((trie ws).length : Int) + 1, true)
theorem save_i {ws : List Wd} (h : WOk ws) : Ev (fun k => impl_SaveOf.f k (trie ws)) (saveR ws) := by
  unfold impl_SaveOf.f saveR
  have hle := h.le
  have hl := h.len
  have hs := sum_le h
  have e1 : (ws.map wb).map (·.data.toList) = ws := bw_map_wb ws
  have ej : strings_Join.f (ws.map wb) (⟨#[]⟩ : ByteArray) = some ⟨(Lib.join ws []).toArray⟩ := by
    unfold strings_Join.f
    rw [e1]
    rw [if_pos ⟨by rw [List.length_map]; omega, by show (Lib.join ws []).length ≤ _; rw [join_nil]; omega⟩]
  have es : (⟨(Lib.join ws []).toArray⟩ : ByteArray).size = sumL ws := by rw [← join_nil]; simp [ByteArray.size]
  refine Ev.bind h.trieT (ev_pos rfl (Ev.bind h.words ?_))
  rw [ej]
  refine ev_some (ev_eq ?_)
  rw [es, w64 (x := (sumL ws : Int) - ((trie ws).length : Int)) (by omega) (by omega), w64 (by omega) (by omega)]
theorem save_s {ws : List Wd} (h : WOk ws) : Ev (fun k => spec_SaveOf.f k (trie ws)) (saveR ws) := by
  unfold spec_SaveOf.f saveR
  have hle := h.le
  have hl := h.len
  have hs := sum_le h
  refine Ev.bind h.l2Trie (ev_pos rfl (Ev.bind h.l2Words ?_))
  have key : ∀ (suf pre : List Wd) (a : Nat), ws = pre ++ suf → a + sumL suf = sumL ws → Ev (fun k => spec_SaveOf.l0 k (a : Int) (ws.map wb) pre.length (trie ws)) ((sumL ws : Int) - ((trie ws).length : Int) + 1, true) := by
    intro suf
    induction suf with
    | nil =>
      intro pre a he ha
      have hlen : pre.length = ws.length := by rw [he]; simp
      refine Ev.step (fun k => by unfold spec_SaveOf.l0; rfl) (ev_neg (by rw [List.length_map]; omega) (ev_eq ?_))
      have ha' : a = sumL ws := ha
      rw [ha', w64 (x := (sumL ws : Int) - ((trie ws).length : Int)) (by omega) (by omega), w64 (by omega) (by omega)]
    | cons x suf ih =>
      intro pre a he ha
      have hlen : ws.length = pre.length + (suf.length + 1) := by rw [he]; simp
      have hx : rdOf ByteArray.empty (ws.map wb) (pre.length : Int) = wb x := by
        rw [rdOf_map_wb ws pre.length (by omega)]; congr 1; subst he; simp
      have hsum : sumL (x :: suf) = x.length + sumL suf := by unfold sumL; rw [List.map_cons, List.sum_cons]
      refine Ev.step (fun k => by unfold spec_SaveOf.l0; rfl) (ev_pos (by rw [List.length_map]; omega) (ev_pos (by omega) ?_))
      rw [hx, wb_size, inc (by omega), w64 (by omega) (by omega)]
      have := ih (pre ++ [x]) (a + x.length) (by rw [he]; simp) (by omega)
      rw [List.length_append] at this
      have e2 : (a : Int) + (x.length : Int) = ((a + x.length : Nat) : Int) := by omega
      rw [e2]
      exact this
  exact key ws [] 0 rfl (Nat.zero_add _)
theorem save_i0 {t : List ND} (ht : t.length ≤ 2000000) (h : isT t = false) : Ev (fun k => impl_SaveOf.f k t) (0, false) := by
  unfold impl_SaveOf.f
  exact Ev.bind (noT_i ht h) (ev_neg (by decide) (ev_eq rfl))
theorem save_s0 {t : List ND} (ht : t.length ≤ 2000000) (h : isT t = false) : Ev (fun k => spec_SaveOf.f k t) (0, false) := by
  unfold spec_SaveOf.f
  exact Ev.bind (noT_s ht h) (ev_neg (by decide) (ev_eq rfl))
end Go.Proofs.YtcplbbflfgckbaaGreatDoor.Pl

