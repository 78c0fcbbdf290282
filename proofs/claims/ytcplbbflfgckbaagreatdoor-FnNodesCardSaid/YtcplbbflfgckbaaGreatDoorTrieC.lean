/- Plain: the reference's trie of words, and when it takes a trie for valid. -/
import Derived.Test.YtcplbbflfgckbaaGreatDoorX4
import Derived.Test.YtcplbbflfgckbaaGreatDoorX8
import Derived.Test.YtcplbbflfgckbaaGreatDoorX9
import Derived.Test.YtcplbbflfgckbaaGreatDoorX19
import Derived.Test.YtcplbbflfgckbaaGreatDoorTrieB
set_option linter.unusedVariables false
set_option linter.unusedSimpArgs false
namespace Go.Proofs.YtcplbbflfgckbaaGreatDoor.Pl
open Go.RowKit Go.Proofs.YtcplbbflfgckbaaGreatDoorW.PrintWords Go.Proofs.YtcplbbflfgckbaaGreatDoorW.PrintLast Go.Proofs.YtcplbbflfgckbaaGreatDoorW.PrintMore Go.Proofs.YtcplbbflfgckbaaGreatDoor.X

theorem rdOf_map_wb (ps : List Wd) (i : Nat) (h : i < ps.length) : rdOf ByteArray.empty (ps.map wb) (i : Int) = wb ps[i] := by
  rw [rdOf_nat, List.getD_eq_getElem?_getD, List.getElem?_map, List.getElem?_eq_getElem h]; rfl
/-- The nodes put together one by one. -/
theorem l2Of_nodes (ws : List Wd) (hw : ws.length ≤ 100000) (hl : (prefs ws).length ≤ 100000) (hs : ∀ p ∈ prefs ws, p.length ≤ 1000000) : Ev (fun k => spec_l2Of.l2 k (ws.map wb) ((prefs ws).map wb) 0 []) (trie ws) := by
  have key : ∀ d i, (prefs ws).length - i = d → i ≤ (prefs ws).length → Ev (fun k => spec_l2Of.l2 k (ws.map wb) ((prefs ws).map wb) i ((trie ws).take i)) (trie ws) := by
    intro d
    induction d with
    | zero =>
      intro i hd hi
      refine Ev.step (fun k => by unfold spec_l2Of.l2; rfl) (ev_neg (by rw [List.length_map]; omega) (ev_eq ?_))
      rw [List.take_of_length_le (by rw [trie_length]; omega)]
    | succ d ih =>
      intro i hd hi
      have hi' : i < (prefs ws).length := by omega
      have hi2 : i < (trie ws).length := by rw [trie_length]; exact hi'
      have hmem := List.getElem_mem hi'
      have htk : ((trie ws).take i).length = i := by rw [List.length_take]; omega
      have hn : (trie ws)[i] = nodeOf ws (prefs ws) (prefs ws)[i] := by simp [trie]
      have hnext : ∀ nd : ND, nd = (trie ws)[i] → Ev (fun k => spec_l2Of.l2 k (ws.map wb) ((prefs ws).map wb) ((i + 1 : Nat) : Int) ((trie ws).take i ++ [nd])) (trie ws) := by
        rintro nd rfl
        rw [← List.take_succ_eq_append_getElem hi2]
        exact ih (i + 1) (by omega) (by omega)
      refine Ev.step (fun k => by unfold spec_l2Of.l2; rfl) (ev_pos (by rw [List.length_map]; omega) (ev_pos (by omega) ?_))
      rw [rdOf_map_wb _ _ hi']
      refine Ev.bind (l2Has_ev (ws.map wb) _ (by rw [List.length_map]; omega)) ?_
      rw [bw_map_wb, bw_wb, inc (by omega)]
      rcases Nat.eq_zero_or_pos i with h0 | h0
      · subst h0
        refine ev_neg (by omega) (ev_pos (by rw [htk]; omega) (hnext _ ?_))
        obtain ⟨l, e⟩ := prefs_head ws
        have e0 : (prefs ws)[0] = [] := by simp only [e, List.getElem_cons_zero]
        rw [hn, e0]
        unfold nodeOf
        rw [if_pos rfl]
      · have hne : (prefs ws)[i] ≠ [] := by
          intro e
          have h1 : (prefs ws)[0]'(by omega) < (prefs ws)[i] := List.pairwise_iff_getElem.1 (prefs_SS ws) 0 i (by omega) hi' h0
          rw [e] at h1
          exact List.not_lt_nil _ h1
        have hlp := List.length_pos_iff.2 hne
        have hsz := hs _ hmem
        have e1 : wrap64 (((wb (prefs ws)[i]).size : Int) - 1) = (((prefs ws)[i].length - 1 : Nat) : Int) := by
          rw [wb_size, w64 (by omega) (by omega)]; omega
        refine ev_pos (by omega) ?_
        rw [e1]
        refine ev_pos (by omega) (ev_pos (by rw [wb_size]; omega) (ev_pos (by rw [wb_size]; omega) ?_))
        rw [Int.toNat_natCast, extract_wb, ← List.dropLast_eq_take, last_ltr hne]
        refine Ev.bind (l2Place_ev ((prefs ws).map wb) (wb (prefs ws)[i].dropLast) (by rw [List.length_map]; omega) (by rw [bw_map_wb, bw_wb]; exact dropLast_mem hmem)) ?_
        refine ev_pos (by rw [htk]; omega) (hnext _ ?_)
        rw [hn, bw_map_wb, bw_wb]
        unfold nodeOf
        rw [if_neg hne]
  have := key _ 0 rfl (Nat.zero_le _)
  rw [List.take_zero] at this
  exact this
theorem inits_get (w : Wd) (n : Nat) (h : n < w.length) : (inits w).drop n = w.take (n + 1) :: (inits w).drop (n + 1) := by
  have hl : n < (inits w).length := by simpa [inits] using h
  rw [List.drop_eq_getElem_cons hl]
  congr 1
  simp [inits]
theorem inits_end (w : Wd) : (inits w).drop w.length = [] := by rw [List.drop_eq_nil_iff]; simp [inits]
theorem l2Of_ev (ws : List Wd) (hw : ws.length ≤ 100) (hs : ∀ w ∈ ws, w.length ≤ 100) : Ev (fun k => spec_l2Of.f k (ws.map wb)) (trie ws) := by
  have hpl := prefs_length (ws := ws) (m := 100) hs
  have hps : ∀ p ∈ prefs ws, p.length ≤ 100 := fun p hp => by
    rcases (mem_prefs ws p).1 hp with rfl | ⟨w, hw, hpw⟩
    · simp
    · exact Nat.le_trans hpw.length_le (hs w hw)
  have hnodes := l2Of_nodes ws (by omega) (by omega) (fun p hp => by have := hps p hp; omega)
  have inner : ∀ (i : Nat) (hi : i < ws.length) (R : List ND) (d n : Nat) (A : List Wd), ws[i].length - n = d → n ≤ ws[i].length → A.length ≤ 1 + 100 * i + n → (∀ x ∈ A, x.length ≤ 100) →
      ((((inits ws[i]).drop n).foldl ins A).length ≤ 1 + 100 * (i + 1) → (∀ x ∈ ((inits ws[i]).drop n).foldl ins A, x.length ≤ 100) → Ev (fun k => spec_l2Of.l0 k (ws.map wb) ((((inits ws[i]).drop n).foldl ins A).map wb) ((i + 1 : Nat) : Int)) R) → Ev (fun k => spec_l2Of.l1 k (ws.map wb) (A.map wb) i ((n + 1 : Nat) : Int)) R := by
    intro i hi R d
    have hwl := hs _ (List.getElem_mem hi)
    induction d with
    | zero =>
      intro n A hd hn hA hAs hnext
      obtain rfl : n = ws[i].length := by omega
      refine Ev.step (fun k => by unfold spec_l2Of.l1; rfl) (ev_pos (by omega) (ev_pos (by rw [List.length_map]; omega) ?_))
      rw [rdOf_map_wb _ _ hi]
      refine ev_neg (by rw [wb_size]; omega) ?_
      rw [inc (by omega)]
      rw [inits_end] at hnext
      exact hnext (by simp only [List.foldl_nil]; omega) hAs
    | succ d ih =>
      intro n A hd hn hA hAs hnext
      have hn' : n < ws[i].length := by omega
      refine Ev.step (fun k => by unfold spec_l2Of.l1; rfl) (ev_pos (by omega) (ev_pos (by rw [List.length_map]; omega) ?_))
      rw [rdOf_map_wb _ _ hi]
      refine ev_pos (by rw [wb_size]; omega) (ev_pos (by omega) ?_)
      rw [Int.toNat_natCast, extract_wb]
      have hp := l2Put_ev (A.map wb) (wb (ws[i].take (n + 1))) (by rw [List.length_map]; omega) (fun y hy => by
          obtain ⟨z, hz, rfl⟩ := List.mem_map.1 hy
          rw [wb_size]; have := hAs z hz; omega) (by rw [wb_size, List.length_take]; omega)
      rw [bw_map_wb, bw_wb] at hp
      refine Ev.bind hp ?_
      rw [inc (by omega)]
      have hil := ins_length A (ws[i].take (n + 1))
      refine ih (n + 1) _ (by omega) (by omega) (by omega) (fun x hx => ?_) (fun h1 h2 => ?_)
      · rcases (mem_ins A _ x).1 hx with rfl | hx
        · rw [List.length_take]; omega
        · exact hAs x hx
      · have e : ((inits ws[i]).drop n).foldl ins A = ((inits ws[i]).drop (n + 1)).foldl ins (ins A (ws[i].take (n + 1))) := by
          rw [inits_get _ _ hn', List.foldl_cons]
        rw [e] at hnext
        exact hnext h1 h2
  have outer : ∀ d i (A : List Wd), ws.length - i = d → i ≤ ws.length → A.length ≤ 1 + 100 * i → (∀ x ∈ A, x.length ≤ 100) → ((ws.drop i).flatMap inits).foldl ins A = prefs ws → Ev (fun k => spec_l2Of.l0 k (ws.map wb) (A.map wb) i) (trie ws) := by
    intro d
    induction d with
    | zero =>
      intro i A hd hi hA hAs he
      refine Ev.step (fun k => by unfold spec_l2Of.l0; rfl) (ev_neg (by rw [List.length_map]; omega) ?_)
      rw [List.drop_of_length_le (by omega)] at he
      simp only [List.flatMap_nil, List.foldl_nil] at he
      rw [he]
      exact hnodes
    | succ d ih =>
      intro i A hd hi hA hAs he
      have hi' : i < ws.length := by omega
      refine Ev.step (fun k => by unfold spec_l2Of.l0; rfl) (ev_pos (by rw [List.length_map]; omega) ?_)
      have h0 := inner i hi' (trie ws) ws[i].length 0 A (by omega) (Nat.zero_le _) (by omega) hAs (fun h1 h2 => ?_)
      · exact h0
      · rw [List.drop_zero] at h1 h2 ⊢
        refine ih (i + 1) _ (by omega) (by omega) h1 h2 ?_
        rw [List.drop_eq_getElem_cons hi', List.flatMap_cons, List.foldl_append] at he
        exact he
  have := outer _ 0 [[]] rfl (Nat.zero_le _) (by simp) (by simp) (by rw [List.drop_zero]; exact foldl_prefs ws)
  exact this
theorem l2Same_ev (a b : List ND) (ha : a.length ≤ 2000000) (hb : b.length ≤ 2000000) : Ev (fun k => spec_l2Same.f k a b) (decide (a = b)) := by
  have fin : ∀ i : Nat, (a.length ≤ i ∨ b.length ≤ i) → i ≤ a.length → i ≤ b.length → (a.take i = b.take i) → Ev (fun k => spec_l2Same.j1 k (i : Int) false a b) (decide (a = b)) := by
    intro i h h1 h2 ht
    refine Ev.step (fun k => by unfold spec_l2Same.j1; rfl) (ev_neg (by decide) (ev_eq ?_))
    rw [Bool.eq_iff_iff, beq_iff_eq, decide_eq_true_eq]
    constructor
    · intro he
      have he' : a.length = b.length := by omega
      rw [List.take_of_length_le (by omega), List.take_of_length_le (by omega)] at ht
      exact ht
    · rintro rfl; rfl
  have key : ∀ d i, a.length - i = d → i ≤ a.length → i ≤ b.length → a.take i = b.take i → Ev (fun k => spec_l2Same.l0 k (i : Int) a b) (decide (a = b)) := by
    intro d
    induction d with
    | zero =>
      intro i hd h1 h2 ht
      exact Ev.step (fun k => by unfold spec_l2Same.l0; rfl) (ev_neg (by omega) (fin i (by omega) h1 h2 ht))
    | succ d ih =>
      intro i hd h1 h2 ht
      have hia : i < a.length := by omega
      refine Ev.step (fun k => by unfold spec_l2Same.l0; rfl) (ev_pos (by omega) ?_)
      by_cases hib : i < b.length
      · rw [decide_eq_true (show (i : Int) < (b.length : Int) by omega)]
        refine Ev.step (fun k => by unfold spec_l2Same.j1; rfl) (ev_pos rfl (ev_pos (by omega) (ev_pos (by omega) (ev_pos (by omega) ?_))))
        rw [rd_nd hia, rd_nd hib]
        by_cases hc : a[i] = b[i]
        · refine ev_neg (by rw [hc]; simp) ?_
          rw [inc (by omega)]
          refine ih (i + 1) (by omega) (by omega) (by omega) ?_
          rw [List.take_succ_eq_append_getElem hia, List.take_succ_eq_append_getElem hib, ht, hc]
        · refine ev_pos ?_ (ev_eq ?_)
          · by_cases h1 : a[i].f0 = b[i].f0
            · by_cases h2 : a[i].f1 = b[i].f1
              · by_cases h3 : a[i].f2 = b[i].f2
                · exact absurd (show a[i] = b[i] by cases ha : a[i]; cases hb : b[i]; rw [ha, hb] at h1 h2 h3; simp at h1 h2 h3; rw [h1, h2, h3]) hc
                · simp [h3]
              · simp [h2]
            · simp [h1]
          · symm; rw [decide_eq_false_iff_not]; rintro rfl; exact hc rfl
      · rw [decide_eq_false (by omega)]
        exact fin i (by omega) h1 h2 ht
  exact key _ 0 rfl (Nat.zero_le _) (Nat.zero_le _) rfl
theorem l2Trie_ev (t : List ND) (ht : t.length ≤ 2000000) : Ev (fun k => spec_l2Trie.f k t) (isT t) := by
  unfold spec_l2Trie.f
  rw [l1In_eq]
  refine ev_some (ev_ite (fun hc => ?_) (fun hc => ev_eq ?_))
  · have hl := of_decide_eq_true hc
    obtain ⟨ws, h1, h2, h3, h4⟩ := l2Words_ev t (by omega)
    refine Ev.bind h1 ?_
    refine Ev.bind (l2Set_ev ws (by omega) (fun x hx => by have := h3 x hx; omega)) ?_
    have href := isT_ref t (by omega) (ws.map bw) (fun P hP => by rw [h4 P hP, bw_map_wb])
    unfold refSet
    by_cases hall : ∀ w ∈ ws.map bw, okW w
    · rw [if_pos hall]
      refine ev_ite (fun hc2 => ?_) (fun hc2 => ev_eq ?_)
      · have hl2 : (setW (ws.map bw)).length ≤ 40 := of_decide_eq_true hc2
        refine Ev.bind (l2Of_ev (setW (ws.map bw)) (by omega) (fun w hw => ?_)) ?_
        · have := (hall w ((mem_setW _ w).1 hw)).1; omega
        · have hb := trie_bound (ws := setW (ws.map bw)) (fun w hw => hall w ((mem_setW _ w).1 hw)) hl2
          refine Ev.bind (l2Same_ev _ t (by omega) ht) (ev_eq ?_)
          rw [Bool.eq_iff_iff, isT_iff, href, decide_eq_true_eq]
          exact ⟨fun h => ⟨hall, hl2, h⟩, fun h => h.2.2⟩
      · symm; rw [Bool.eq_false_iff, Ne, isT_iff, href]
        exact fun h => hc2 (decide_eq_true h.2.1)
    · rw [if_neg hall]
      refine ev_neg (by decide) (ev_eq ?_)
      symm; rw [Bool.eq_false_iff, Ne, isT_iff, href]
      exact fun h => hall h.1
  · symm; rw [Bool.eq_false_iff, Ne, isT_iff]
    rintro ⟨ws, h1, h2, h3, rfl⟩
    have := trie_bound h2 h3
    exact hc (decide_eq_true (by omega))
theorem l2Good_ev (t : List ND) (ht : t.length ≤ 2000000) (node : Int) : Ev (fun k => spec_l2Good.f k t node) (isT t && decide (0 ≤ node ∧ node < (t.length : Int))) := by
  unfold spec_l2Good.f
  refine Ev.bind (l2Trie_ev t ht) ?_
  rw [l1In_eq, w64 (by omega) (by omega)]
  cases isT t with
  | true => 
    refine ev_pos rfl (ev_some (ev_eq ?_))
    rw [Bool.true_and, decide_eq_decide]; omega
  | false => exact ev_neg (by decide) (ev_eq rfl)
end Go.Proofs.YtcplbbflfgckbaaGreatDoor.Pl

