/- Plain: numbers for symbols, and the fill of lengths: both sides alike. No conditions. -/
import Derived.Test.YtknonolfgpknjaaX1
import Derived.Test.YtknonolfgpknjaaX2
import Derived.Test.YtknonolfgpknjaaX3
import Derived.Test.YtknonolfgpknjaaPl
set_option linter.unusedVariables false
set_option linter.unusedSimpArgs false
namespace Go.Proofs.Ytknonolfgpknjaa.Pl
open Go.RowKit Go.Proofs.YtknonolfgpknjaaW.PrintWords Go.Proofs.YtknonolfgpknjaaW.PrintLast Go.Proofs.YtknonolfgpknjaaW.PrintMore Go.Proofs.Ytknonolfgpknjaa.X
theorem l1In_eq (a b c : Int) : spec_l1In.f a b c = some (decide (b ≤ a) && decide (a ≤ c)) := by
  unfold spec_l1In.f
  by_cases h : a ≥ b
  · have h' : b ≤ a := h
    simp [h, h']
  · have h' : ¬ b ≤ a := h
    simp [h, h']
theorem in_eq (a b c : Int) : impl_in.f a b c = some (decide (b ≤ a) && decide (a ≤ c)) := by
  unfold impl_in.f
  by_cases h : a ≥ b
  · have h' : b ≤ a := h
    simp [h, h']
  · have h' : ¬ b ≤ a := h
    simp [h, h']
def numsB (l : List Int) (hi : Int) : Bool := (decide (1 ≤ (l.length : Int)) && decide ((l.length : Int) ≤ 12)) && l.all (fun n => decide (1 ≤ n) && decide (n ≤ hi))
theorem areIn_eq (l : List Int) (hi : Int) : impl_areIn.f l hi = some (numsB l hi) := by
  have h1 : ∀ z, impl_areIn_1.f z hi = some (!(decide (1 ≤ z) && decide (z ≤ hi))) := fun z => by
    unfold impl_areIn_1.f; rw [in_eq]; rfl
  have h2 : G.anyM (fun z => impl_areIn_1.f z hi) l = some (!l.all (fun n => decide (1 ≤ n) && decide (n ≤ hi))) := by
    induction l with
    | nil => rfl
    | cons a l ih =>
      unfold G.anyM
      rw [h1 a, ih, List.all_cons]
      cases (decide (1 ≤ a) && decide (a ≤ hi)) <;> simp
  unfold impl_areIn.f numsB
  rw [in_eq]
  cases (decide (1 ≤ (l.length : Int)) && decide ((l.length : Int) ≤ 12)) with
  | false => rfl
  | true =>
    simp only [Option.bind_some, if_true, Bool.true_and]
    show (G.anyM (fun z => impl_areIn_1.f z hi) l).bind _ = _
    rw [h2]; simp
theorem l10Numbers_ev (l : List Int) (hi : Int) (hl : l.length ≤ 140737488351232) : Ev (fun k => spec_l10Numbers.f k l hi) (numsB l hi) := by
  have stop : ∀ i : Int, Ev (fun k => spec_l10Numbers.j1 k l hi i false) (decide (1 ≤ (l.length : Int)) && decide ((l.length : Int) ≤ 12)) := fun i => by
    refine Ev.step (fun k => by unfold spec_l10Numbers.j1; rfl) (ev_neg (by simp) ?_)
    rw [l1In_eq]; exact ev_eq rfl
  have key : ∀ d (i : Nat), 13 - i = d → i ≤ 13 → i ≤ l.length → Ev (fun k => spec_l10Numbers.l0 k l hi i) ((decide (1 ≤ (l.length : Int)) && decide ((l.length : Int) ≤ 12)) && ((l.drop i).take (13 - i)).all (fun n => decide (1 ≤ n) && decide (n ≤ hi))) := by
    intro d
    induction d with
    | zero =>
      intro i hd h1 h2
      obtain rfl : i = 13 := by omega
      have e : ((l.drop 13).take (13 - 13)).all (fun n => decide (1 ≤ n) && decide (n ≤ hi)) = true := rfl
      rw [e, Bool.and_true]
      refine Ev.step (fun k => by unfold spec_l10Numbers.l0; rfl) (ev_ite (fun _ => ?_) (fun _ => stop _))
      exact stop _
    | succ d ih =>
      intro i hd h1 h2
      by_cases hlt : i < l.length
      · have hx : (l.drop i).take (13 - i) = l.getD i 0 :: (l.drop (i + 1)).take (13 - (i + 1)) := by
          rw [drop_cons hlt 0, show 13 - i = (13 - (i + 1)) + 1 by omega, List.take_succ_cons]
        have hdec : decide ((i : Int) ≤ 12) = true := decide_eq_true (by omega)
        refine Ev.step (fun k => by unfold spec_l10Numbers.l0; rfl) (ev_pos (by omega) ?_)
        rw [hdec]
        refine Ev.step (fun k => by unfold spec_l10Numbers.j1; rfl) (ev_pos rfl (ev_pos (by omega) (ev_pos (by omega) ?_)))
        rw [rd_nat, l1In_eq, hx, List.all_cons]
        refine ev_some ?_
        cases hb : (decide (1 ≤ l.getD i 0) && decide (l.getD i 0 ≤ hi)) with
        | true =>
          refine ev_pos rfl ?_
          rw [inc (by omega), Bool.true_and]
          exact ih (i + 1) (by omega) (by omega) (by omega)
        | false =>
          refine ev_neg (by simp) (ev_eq ?_)
          simp
      · obtain rfl : i = l.length := by omega
        have e : ((l.drop l.length).take (13 - l.length)).all (fun n => decide (1 ≤ n) && decide (n ≤ hi)) = true := by rw [List.drop_length]; simp
        rw [e, Bool.and_true]
        exact Ev.step (fun k => by unfold spec_l10Numbers.l0; rfl) (ev_neg (by omega) (stop _))
  have h := key _ 0 rfl (by omega) (Nat.zero_le _)
  have e : ((decide (1 ≤ (l.length : Int)) && decide ((l.length : Int) ≤ 12)) && ((l.drop 0).take (13 - 0)).all (fun n => decide (1 ≤ n) && decide (n ≤ hi))) = numsB l hi := by
    unfold numsB
    by_cases hk : (l.length : Int) ≤ 12
    · rw [List.drop_zero, List.take_of_length_le (by omega)]
    · rw [decide_eq_false hk]; simp
  rw [e] at h
  exact h
theorem l10Fill_same (k : Nat) (l : List Int) (i : Nat) (a : Int) (hl : l.length ≤ 140737488351232) (hi : i ≤ l.length) : spec_l10Fill.l0 k l a i = impl_fill.l0 k a l (l.length : Int) i := by
  induction k generalizing i a with
  | zero => rfl
  | succ k ih =>
    simp only [spec_l10Fill.l0, impl_fill.l0]
    by_cases h : (i : Int) < (l.length : Int)
    · simp only [if_pos h, inc (show i ≤ 9223372036854775806 by omega)]
      rw [ih (i + 1) _ (by omega)]
    · simp only [if_neg h]
theorem fill_same (k : Nat) (l : List Int) (hl : l.length ≤ 140737488351232) : spec_l10Fill.f k l = impl_fill.f k l := l10Fill_same k l 0 0 hl (by omega)
theorem fill_some (l : List Int) (hl : l.length ≤ 140737488351232) (hb : ∀ x ∈ l, x ≤ 14 ∧ -1000000000000 ≤ x) : ∃ r, Ev (fun k => impl_fill.f k l) r := by
  have key : ∀ m i a, l.length - i = m → i ≤ l.length → ∃ r, Ev (fun k => impl_fill.l0 k a l (l.length : Int) (i : Nat)) r := by
    intro m
    induction m with
    | zero =>
      intro i a hm hi
      exact ⟨a, Ev.step (fun k => by simp only [impl_fill.l0]; rfl) (ev_neg (by omega) (ev_eq rfl))⟩
    | succ m ih =>
      intro i a hm hi
      have hi2 : i < l.length := by omega
      have hx := hb _ (getD_mem hi2 0)
      obtain ⟨r, hr⟩ := ih (i + 1) (wrap64 (a + shl .i64 1 (wrap64 (14 - l.getD i 0)))) (by omega) (by omega)
      refine ⟨r, Ev.step (fun k => by simp only [impl_fill.l0]; rfl) (ev_pos (by omega) (ev_pos (by omega) (ev_pos (by omega) (ev_pos ?_ ?_))))⟩
      · rw [rd_nat, w64 (by omega) (by omega)]; omega
      · simp only [inc (show i ≤ 9223372036854775806 by omega), rd_nat]; exact hr
  exact key _ 0 0 rfl (by omega)
end Go.Proofs.Ytknonolfgpknjaa.Pl
