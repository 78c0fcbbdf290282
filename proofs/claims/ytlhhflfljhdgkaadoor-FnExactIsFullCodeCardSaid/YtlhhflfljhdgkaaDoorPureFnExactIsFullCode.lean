/- Plain: IsFullCode of the program and of the reference answer alike on all lists. No conditions. -/
import Derived.Test.YtlhhflfljhdgkaaDoorX5
import Derived.Test.YtlhhflfljhdgkaaDoorCodes
import Derived.Test.YtlhhflfljhdgkaaDoorGlue
set_option linter.unusedVariables false
set_option linter.unusedSimpArgs false
namespace Go.Proofs.YtlhhflfljhdgkaaDoor.Pure
open Go.RowKit Go.Proofs.YtlhhflfljhdgkaaDoorW.PrintWords Go.Proofs.YtlhhflfljhdgkaaDoorW.PrintLast Go.Proofs.YtlhhflfljhdgkaaDoorW.PrintMore Go.Proofs.YtlhhflfljhdgkaaDoor.X Go.Proofs.YtlhhflfljhdgkaaDoor.Pl
theorem l10Fill_same (k : Nat) (l : List Int) (i : Nat) (a : Int) (hl : l.length ≤ 140737488351232) (hi : i ≤ l.length) : spec_l10Fill.l0 k l a i = impl_fill.l0 k a l (l.length : Int) i := by
  induction k generalizing i a with
  | zero => rfl
  | succ k ih =>
    simp only [spec_l10Fill.l0, impl_fill.l0]
    by_cases h : (i : Int) < (l.length : Int)
    · simp only [if_pos h, inc (show i ≤ 9223372036854775806 by omega)]
      rw [ih (i + 1) _ (by omega)]
    · simp only [if_neg h]
theorem fill_same (k : Nat) (l : List Int) (hl : l.length ≤ 140737488351232) : spec_l10Fill.f k l = impl_fill.f k l := l10Fill_same k l 0 0 hl (by omega)
theorem l10Lengths_ev (l : List ByteArray) (hl : l.length * 16 ≤ 140737488351232) : Ev (fun k => spec_l10Lengths.f k l) (l.map fun s => (s.size : Int)) := by
  have key : ∀ m i, l.length - i = m → i ≤ l.length → Ev (fun k => spec_l10Lengths.l0 k l ((l.take i).map fun s => (s.size : Int)) (i : Nat)) (l.map fun s => (s.size : Int)) := by
    intro m
    induction m with
    | zero =>
      intro i hm hi
      obtain rfl : i = l.length := by omega
      exact Ev.step (fun k => by simp only [spec_l10Lengths.l0]; rfl) (ev_neg (by omega) (ev_eq (by simp)))
    | succ m ih =>
      intro i hm hi
      have hi2 : i < l.length := by omega
      refine Ev.step (fun k => by simp only [spec_l10Lengths.l0]; rfl) (ev_pos (by omega) (ev_pos (by omega) (ev_pos (by simp; omega) ?_)))
      have := ih (i + 1) (by omega) (by omega)
      rw [List.take_succ_eq_append_getElem hi2, List.map_append] at this
      simp only [inc (show i ≤ 9223372036854775806 by omega), rdOf_nat]
      rw [show l.getD i ByteArray.empty = l[i] by simp [List.getD, List.getElem?_eq_getElem hi2]]
      exact this
  exact key _ 0 rfl (by omega)
theorem lengthsOf_ev (l : List ByteArray) (hl : l.length * 16 ≤ 140737488351232) : Ev (fun k => impl_lengthsOf.f k l) (l.map fun s => (s.size : Int)) := by
  have key : ∀ m i, l.length - i = m → i ≤ l.length → Ev (fun k => impl_lengthsOf.l0 k ((l.take i).map fun s => (s.size : Int)) l (l.length : Int) (i : Nat)) (l.map fun s => (s.size : Int)) := by
    intro m
    induction m with
    | zero =>
      intro i hm hi
      obtain rfl : i = l.length := by omega
      exact Ev.step (fun k => by simp only [impl_lengthsOf.l0]; rfl) (ev_neg (by omega) (ev_eq (by simp)))
    | succ m ih =>
      intro i hm hi
      have hi2 : i < l.length := by omega
      refine Ev.step (fun k => by simp only [impl_lengthsOf.l0]; rfl) (ev_pos (by omega) (ev_pos (by omega) (ev_pos (by omega) (ev_pos (by simp; omega) ?_))))
      have := ih (i + 1) (by omega) (by omega)
      rw [List.take_succ_eq_append_getElem hi2, List.map_append] at this
      simp only [inc (show i ≤ 9223372036854775806 by omega), rdOf_nat]
      rw [show l.getD i ByteArray.empty = l[i] by simp [List.getD, List.getElem?_eq_getElem hi2]]
      exact this
  exact key _ 0 rfl (by omega)
/-- The fill of lengths, all of them from 0 to 62. -/
theorem fill_some (l : List Int) (hl : l.length ≤ 140737488351232) (hb : ∀ x ∈ l, x ≤ 14 ∧ -1000000000000 ≤ x) : ∃ r, Ev (fun k => impl_fill.f k l) r := by
  have key : ∀ m i a, l.length - i = m → i ≤ l.length → ∃ r, Ev (fun k => impl_fill.l0 k a l (l.length : Int) (i : Nat)) r := by
    intro m
    induction m with
    | zero =>
      intro i a hm hi
      exact ⟨a, Ev.step (fun k => by simp only [impl_fill.l0]; rfl) (ev_neg (by omega) (ev_eq rfl))⟩
    | succ m ih =>
      intro i a hm hi
      have hi2 : i < l.length := by omega
      have hx := hb _ (getD_mem hi2 0)
      obtain ⟨r, hr⟩ := ih (i + 1) (wrap64 (a + shl .i64 1 (wrap64 (14 - l.getD i 0)))) (by omega) (by omega)
      refine ⟨r, Ev.step (fun k => by simp only [impl_fill.l0]; rfl) (ev_pos (by omega) (ev_pos (by omega) (ev_pos (by omega) (ev_pos ?_ ?_))))⟩
      · rw [rd_nat, w64 (by omega) (by omega)]; omega
      · simp only [inc (show i ≤ 9223372036854775806 by omega), rd_nat]; exact hr
  exact key _ 0 0 rfl (by omega)
theorem code_sizes {l : List ByteArray} (h : codeB l = true) : ∀ x ∈ l.map (fun s => (s.size : Int)), x ≤ 14 ∧ -1000000000000 ≤ x := by
  intro x hx
  obtain ⟨s, hs, rfl⟩ := List.mem_map.1 hx
  unfold codeB at h
  rw [Bool.and_eq_true, allN_iff] at h
  obtain ⟨i, hi⟩ := List.mem_iff_getElem?.1 hs
  have h2 := h.2 i (List.getElem?_eq_some_iff.1 hi).1
  rw [List.getD_eq_getElem?_getD, hi] at h2
  simp only [Option.getD_some, Bool.and_eq_true, seqB, bitsB, decide_eq_true_eq] at h2
  omega
theorem code_length {l : List ByteArray} (h : codeB l = true) : l.length ≤ 12 := by
  unfold codeB at h
  simp only [Bool.and_eq_true, decide_eq_true_eq] at h
  omega
/-- One pair for both. -/
theorem full_both (l : List ByteArray) (hl : l.length * 16 ≤ 140737488351232) (hs : ∀ y ∈ l, y.size ≤ 140737488351232) : ∃ r, Ev (fun k => spec_IsFullCode.f k l) r ∧ Ev (fun k => impl_IsFullCode.f k l) r := by
  unfold spec_IsFullCode.f impl_IsFullCode.f
  cases hc : codeB l with
  | false => exact ⟨(false, false), Ev.bind (l10Code_ev l hl hs) (ev_neg (by rw [hc]; decide) (ev_eq rfl)), Ev.bind (isCode_ev l hl hs) (ev_neg (by rw [hc]; decide) (ev_eq rfl))⟩
  | true =>
    obtain ⟨r, hr⟩ := fill_some _ (by have := code_length hc; simp; omega) (code_sizes hc)
    exact ⟨(r == 16384, true), Ev.bind (l10Code_ev l hl hs) (ev_pos hc (Ev.bind (l10Lengths_ev l hl) (Ev.bind (Ev.congr (fun k => fill_same k _ (by have := code_length hc; simp; omega)) hr) (ev_eq rfl)))), Ev.bind (isCode_ev l hl hs) (ev_pos hc (Ev.bind (lengthsOf_ev l hl) (Ev.bind hr (ev_eq rfl))))⟩
theorem FnExactIsFullCode : ∀ (l0 : List ByteArray), (l0.length * 16 ≤ 140737488351232 ∧ ∀ y ∈ l0, y.size ≤ 140737488351232) → ∃ k, laws_FnExactIsFullCode.f k l0 = some true := by
  rintro l ⟨hl, hs⟩
  refine Ev.rounds (r := true) ?_
  obtain ⟨r, hr, _, _⟩ := szStringS_ev l 1048576 (by omega) (by omega) hl hs
  obtain ⟨⟨a, b⟩, h1, h2⟩ := full_both l hl hs
  unfold laws_FnExactIsFullCode.f
  refine Ev.bind hr (ev_ite (fun _ => ev_eq rfl) (fun _ => ?_))
  refine Ev.bind (toStringS_ev l hl) (Ev.bind h1 (Ev.bind (toStringS_ev l hl) (Ev.bind h2 (ev_neg (by simp) ?_))))
  refine Ev.step (fun k => by simp only [laws_FnExactIsFullCode.j0]; rfl) (ev_neg (by simp) ?_)
  exact Ev.bind (toStringS_ev l hl) (Ev.bind (eqStringS_ev l l (by omega)) (ev_pos (by simp) (ev_eq rfl)))
end Go.Proofs.YtlhhflfljhdgkaaDoor.Pure
