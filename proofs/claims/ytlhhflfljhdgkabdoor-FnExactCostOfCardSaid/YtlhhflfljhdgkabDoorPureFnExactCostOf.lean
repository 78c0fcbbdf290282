/- Plain: the cost of a code: the program's and the reference's are one. No conditions. -/
import Derived.Test.YtlhhflfljhdgkabDoorX6
import Derived.Test.YtlhhflfljhdgkabDoorCodes
import Derived.Test.YtlhhflfljhdgkabDoorGlue
set_option linter.unusedVariables false
set_option linter.unusedSimpArgs false
namespace Go.Proofs.YtlhhflfljhdgkabDoor.Pure
open Go.RowKit Go.Proofs.YtlhhflfljhdgkabDoorW.PrintWords Go.Proofs.YtlhhflfljhdgkabDoorW.PrintLast Go.Proofs.YtlhhflfljhdgkabDoorW.PrintMore Go.Proofs.YtlhhflfljhdgkabDoor.X Go.Proofs.YtlhhflfljhdgkabDoor.Pl
theorem l10Lengths_ev (l : List ByteArray) (hl : l.length * 16 ≤ 140737488351232) : Ev (fun k => spec_l10Lengths.f k l) (l.map fun s => (s.size : Int)) := by
  have key : ∀ m i, l.length - i = m → i ≤ l.length → Ev (fun k => spec_l10Lengths.l0 k l ((l.take i).map fun s => (s.size : Int)) (i : Nat)) (l.map fun s => (s.size : Int)) := by
    intro m
    induction m with
    | zero =>
      intro i hm hi
      obtain rfl : i = l.length := by omega
      exact Ev.step (fun k => by simp only [spec_l10Lengths.l0]; rfl) (ev_neg (by omega) (ev_eq (by simp)))
    | succ m ih =>
      intro i hm hi
      have hi2 : i < l.length := by omega
      refine Ev.step (fun k => by simp only [spec_l10Lengths.l0]; rfl) (ev_pos (by omega) (ev_pos (by omega) (ev_pos (by simp; omega) ?_)))
      have := ih (i + 1) (by omega) (by omega)
      rw [List.take_succ_eq_append_getElem hi2, List.map_append] at this
      simp only [inc (show i ≤ 9223372036854775806 by omega), rdOf_nat]
      rw [show l.getD i ByteArray.empty = l[i] by simp [List.getD, List.getElem?_eq_getElem hi2]]
      exact this
  exact key _ 0 rfl (by omega)
theorem lengthsOf_ev (l : List ByteArray) (hl : l.length * 16 ≤ 140737488351232) : Ev (fun k => impl_lengthsOf.f k l) (l.map fun s => (s.size : Int)) := by
  have key : ∀ m i, l.length - i = m → i ≤ l.length → Ev (fun k => impl_lengthsOf.l0 k ((l.take i).map fun s => (s.size : Int)) l (l.length : Int) (i : Nat)) (l.map fun s => (s.size : Int)) := by
    intro m
    induction m with
    | zero =>
      intro i hm hi
      obtain rfl : i = l.length := by omega
      exact Ev.step (fun k => by simp only [impl_lengthsOf.l0]; rfl) (ev_neg (by omega) (ev_eq (by simp)))
    | succ m ih =>
      intro i hm hi
      have hi2 : i < l.length := by omega
      refine Ev.step (fun k => by simp only [impl_lengthsOf.l0]; rfl) (ev_pos (by omega) (ev_pos (by omega) (ev_pos (by omega) (ev_pos (by simp; omega) ?_))))
      have := ih (i + 1) (by omega) (by omega)
      rw [List.take_succ_eq_append_getElem hi2, List.map_append] at this
      simp only [inc (show i ≤ 9223372036854775806 by omega), rdOf_nat]
      rw [show l.getD i ByteArray.empty = l[i] by simp [List.getD, List.getElem?_eq_getElem hi2]]
      exact this
  exact key _ 0 rfl (by omega)
/-- Numbers for symbols, from 1 to the highest. -/
def numsB (l : List Int) (hi : Int) : Bool := (decide (1 ≤ (l.length : Int)) && decide ((l.length : Int) ≤ 12)) && l.all (fun n => decide (1 ≤ n) && decide (n ≤ hi))
theorem areIn_eq (l : List Int) (hi : Int) : impl_areIn.f l hi = some (numsB l hi) := by
  have h1 : ∀ z, impl_areIn_1.f z hi = some (!(decide (1 ≤ z) && decide (z ≤ hi))) := fun z => by
    unfold impl_areIn_1.f; rw [in_eq]; rfl
  have h2 : G.anyM (fun z => impl_areIn_1.f z hi) l = some (!l.all (fun n => decide (1 ≤ n) && decide (n ≤ hi))) := by
    induction l with
    | nil => rfl
    | cons a l ih =>
      unfold G.anyM
      rw [h1 a, ih, List.all_cons]
      cases (decide (1 ≤ a) && decide (a ≤ hi)) <;> simp
  unfold impl_areIn.f numsB
  rw [in_eq]
  cases (decide (1 ≤ (l.length : Int)) && decide ((l.length : Int) ≤ 12)) with
  | false => rfl
  | true =>
    simp only [Option.bind_some, if_true, Bool.true_and]
    show (G.anyM (fun z => impl_areIn_1.f z hi) l).bind _ = _
    rw [h2]; simp
theorem l10Numbers_ev (l : List Int) (hi : Int) (hl : l.length ≤ 140737488351232) : Ev (fun k => spec_l10Numbers.f k l hi) (numsB l hi) := by
  have stop : ∀ i : Int, Ev (fun k => spec_l10Numbers.j1 k l hi i false) (decide (1 ≤ (l.length : Int)) && decide ((l.length : Int) ≤ 12)) := fun i => by
    refine Ev.step (fun k => by unfold spec_l10Numbers.j1; rfl) (ev_neg (by simp) ?_)
    rw [l1In_eq]; exact ev_eq rfl
  have key : ∀ d (i : Nat), 13 - i = d → i ≤ 13 → i ≤ l.length → Ev (fun k => spec_l10Numbers.l0 k l hi i) ((decide (1 ≤ (l.length : Int)) && decide ((l.length : Int) ≤ 12)) && ((l.drop i).take (13 - i)).all (fun n => decide (1 ≤ n) && decide (n ≤ hi))) := by
    intro d
    induction d with
    | zero =>
      intro i hd h1 h2
      obtain rfl : i = 13 := by omega
      have e : ((l.drop 13).take (13 - 13)).all (fun n => decide (1 ≤ n) && decide (n ≤ hi)) = true := rfl
      rw [e, Bool.and_true]
      refine Ev.step (fun k => by unfold spec_l10Numbers.l0; rfl) (ev_ite (fun _ => ?_) (fun _ => stop _))
      exact stop _
    | succ d ih =>
      intro i hd h1 h2
      by_cases hlt : i < l.length
      · have hx : (l.drop i).take (13 - i) = l.getD i 0 :: (l.drop (i + 1)).take (13 - (i + 1)) := by
          rw [drop_cons hlt 0, show 13 - i = (13 - (i + 1)) + 1 by omega, List.take_succ_cons]
        have hdec : decide ((i : Int) ≤ 12) = true := decide_eq_true (by omega)
        refine Ev.step (fun k => by unfold spec_l10Numbers.l0; rfl) (ev_pos (by omega) ?_)
        rw [hdec]
        refine Ev.step (fun k => by unfold spec_l10Numbers.j1; rfl) (ev_pos rfl (ev_pos (by omega) (ev_pos (by omega) ?_)))
        rw [rd_nat, l1In_eq, hx, List.all_cons]
        refine ev_some ?_
        cases hb : (decide (1 ≤ l.getD i 0) && decide (l.getD i 0 ≤ hi)) with
        | true =>
          refine ev_pos rfl ?_
          rw [inc (by omega), Bool.true_and]
          exact ih (i + 1) (by omega) (by omega) (by omega)
        | false =>
          refine ev_neg (by simp) (ev_eq ?_)
          simp
      · obtain rfl : i = l.length := by omega
        have e : ((l.drop l.length).take (13 - l.length)).all (fun n => decide (1 ≤ n) && decide (n ≤ hi)) = true := by rw [List.drop_length]; simp
        rw [e, Bool.and_true]
        exact Ev.step (fun k => by unfold spec_l10Numbers.l0; rfl) (ev_neg (by omega) (stop _))
  have h := key _ 0 rfl (by omega) (Nat.zero_le _)
  have e : ((decide (1 ≤ (l.length : Int)) && decide ((l.length : Int) ≤ 12)) && ((l.drop 0).take (13 - 0)).all (fun n => decide (1 ≤ n) && decide (n ≤ hi))) = numsB l hi := by
    unfold numsB
    by_cases hk : (l.length : Int) ≤ 12
    · rw [List.drop_zero, List.take_of_length_le (by omega)]
    · rw [decide_eq_false hk]; simp
  rw [e] at h
  exact h
theorem cost_same (k : Nat) (x y : List Int) (h : x.length = y.length) (hl : x.length ≤ 140737488351232) (a : Int) (i : Nat) (hi : i ≤ x.length) : spec_l10Cost.l0 k x y a i = impl_costOf.l0 k y a x (x.length : Int) i := by
  induction k generalizing a i with
  | zero => rfl
  | succ k ih =>
    simp only [spec_l10Cost.l0, impl_costOf.l0, ← h]
    by_cases hlt : (i : Int) < (x.length : Int)
    · simp only [if_pos hlt, inc (show i ≤ 9223372036854775806 by omega)]
      rw [ih _ (i + 1) (by omega)]
    · simp only [if_neg hlt]
theorem cost_some (x y : List Int) (h : x.length = y.length) (hl : x.length ≤ 140737488351232) : ∃ r, Ev (fun k => impl_costOf.f k x y) r := by
  have key : ∀ m (i : Nat) (a : Int), x.length - i = m → i ≤ x.length → ∃ r, Ev (fun k => impl_costOf.l0 k y a x (x.length : Int) i) r := by
    intro m
    induction m with
    | zero =>
      intro i a hm hi
      exact ⟨a, Ev.step (fun k => by unfold impl_costOf.l0; rfl) (ev_neg (by omega) (ev_eq rfl))⟩
    | succ m ih =>
      intro i a hm hi
      obtain ⟨r, hr⟩ := ih (i + 1) (wrap64 (a + wrap64 (rd x i * rd y i))) (by omega) (by omega)
      refine ⟨r, Ev.step (fun k => by unfold impl_costOf.l0; rfl) (ev_pos (by omega) (ev_pos (by omega) (ev_pos (by omega) (ev_pos (by omega) ?_))))⟩
      rw [inc (by omega)]; exact hr
  exact key _ 0 0 rfl (Nat.zero_le _)
theorem cost_both (l : List ByteArray) (hl : l.length * 16 ≤ 140737488351232) (hs : ∀ y ∈ l, y.size ≤ 140737488351232) (m : List Int) (hm : m.length ≤ 140737488351232) : ∃ r : Int × Bool, Ev (fun k => spec_CostOf.f k l m) r ∧ Ev (fun k => impl_CostOf.f k l m) r := by
  have bad1 : Ev (fun k => spec_CostOf.j0 k l m true) ((0 : Int), false) := Ev.step (fun k => by unfold spec_CostOf.j0; rfl) (ev_pos rfl (ev_eq rfl))
  have bad2 : Ev (fun k => impl_CostOf.j0 k l m true) ((0 : Int), false) := Ev.step (fun k => by unfold impl_CostOf.j0; rfl) (ev_pos rfl (ev_eq rfl))
  have e1 := l10Code_ev l hl hs
  have e2 := isCode_ev l hl hs
  have e3 := l10Numbers_ev m 999 hm
  have e4 := areIn_eq m 999
  unfold spec_CostOf.f impl_CostOf.f
  cases hc : codeB l with
  | false =>
    rw [hc] at e1 e2
    exact ⟨_, Ev.bind e1 (ev_neg (by simp) bad1), Ev.bind e2 (ev_neg (by simp) bad2)⟩
  | true =>
    rw [hc] at e1 e2
    cases hn : numsB m 999 with
    | false =>
      rw [hn] at e3 e4
      refine ⟨_, Ev.bind e1 (ev_pos rfl (Ev.bind e3 (ev_neg (by simp) bad1))), Ev.bind e2 (ev_pos rfl ?_)⟩
      rw [e4]
      exact ev_some (ev_neg (by simp) bad2)
    | true =>
      rw [hn] at e3 e4
      by_cases hlen : l.length = m.length
      · have b1 : ((m.length : Int) != (l.length : Int)) = false := by rw [hlen]; simp
        have b2 : ((l.length : Int) != (m.length : Int)) = false := by rw [hlen]; simp
        have hml : (l.map fun s => (s.size : Int)).length = m.length := by rw [List.length_map]; exact hlen
        obtain ⟨r, hr⟩ := cost_some (l.map fun s => (s.size : Int)) m hml (by omega)
        have hr2 : Ev (fun k => spec_l10Cost.f k (l.map fun s => (s.size : Int)) m) r := Ev.congr (fun k => cost_same k _ m hml (by omega) 0 0 (Nat.zero_le _)) hr
        refine ⟨(r, true), Ev.bind e1 (ev_pos rfl (Ev.bind e3 (ev_pos rfl ?_))), Ev.bind e2 (ev_pos rfl ?_)⟩
        · rw [b1]
          refine Ev.step (fun k => by unfold spec_CostOf.j0; rfl) (ev_neg (by simp) (Ev.bind (l10Lengths_ev l hl) (Ev.bind hr2 ?_)))
          exact ev_eq rfl
        · rw [e4]
          refine ev_some (ev_pos rfl ?_)
          rw [b2]
          refine Ev.step (fun k => by unfold impl_CostOf.j0; rfl) (ev_neg (by simp) (Ev.bind (lengthsOf_ev l hl) (Ev.bind hr ?_)))
          exact ev_eq rfl
      · have b1 : ((m.length : Int) != (l.length : Int)) = true := by rw [bne_iff_ne]; omega
        have b2 : ((l.length : Int) != (m.length : Int)) = true := by rw [bne_iff_ne]; omega
        refine ⟨_, Ev.bind e1 (ev_pos rfl (Ev.bind e3 (ev_pos rfl (by rw [b1]; exact bad1)))), Ev.bind e2 (ev_pos rfl ?_)⟩
        rw [e4]
        exact ev_some (ev_pos rfl (by rw [b2]; exact bad2))
theorem FnExactCostOf : ∀ (l0 : List ByteArray) (l1 : List Int), (l0.length * 16 ≤ 140737488351232 ∧ ∀ y ∈ l0, y.size ≤ 140737488351232) → (l1.length * 8 ≤ 140737488351232 ∧ ∀ y ∈ l1, (Lit.int .i64 y).wf = true) → ∃ k, laws_FnExactCostOf.f k l0 l1 = some true := by
  rintro l m ⟨hl, hs⟩ ⟨hm, _⟩
  refine Ev.rounds (r := true) ?_
  obtain ⟨r, hr, _, _⟩ := szStringS_ev l 1048576 (by omega) (by omega) hl hs
  obtain ⟨⟨a, b⟩, h1, h2⟩ := cost_both l hl hs m (by omega)
  unfold laws_FnExactCostOf.f
  refine ev_ite (fun _ => ev_eq rfl) (fun _ => ?_)
  refine Ev.bind hr (ev_ite (fun _ => ev_eq rfl) (fun _ => ?_))
  refine Ev.bind (toStringS_ev l hl) (Ev.bind (toIntS_ev m hm) (Ev.bind h1 (Ev.bind (toStringS_ev l hl) (Ev.bind (toIntS_ev m hm) (Ev.bind h2 (ev_pos rfl ?_))))))
  have hb : (b != b) = false := by simp
  simp only [hb]
  refine Ev.step (fun k => by unfold laws_FnExactCostOf.j0; rfl) (ev_neg (by simp) ?_)
  refine Ev.bind (toStringS_ev l hl) (Ev.bind (eqStringS_ev l l (by omega)) (ev_pos (by simp) ?_))
  exact Ev.bind (toIntS_ev m hm) (Ev.bind (eqIntS_ev m m (by omega)) (ev_pos (by simp) (ev_eq rfl)))
end Go.Proofs.YtlhhflfljhdgkabDoor.Pure
