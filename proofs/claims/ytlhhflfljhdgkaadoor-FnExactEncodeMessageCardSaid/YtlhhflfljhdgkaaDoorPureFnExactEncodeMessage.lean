/- Plain: EncodeMessage of the program and of the reference answer alike on all arguments. No conditions. -/
import Derived.Test.YtlhhflfljhdgkaaDoorX6
import Derived.Test.YtlhhflfljhdgkaaDoorCodes
import Derived.Test.YtlhhflfljhdgkaaDoorGlue
set_option linter.unusedVariables false
set_option linter.unusedSimpArgs false
namespace Go.Proofs.YtlhhflfljhdgkaaDoor.Pure
open Go.RowKit Go.Proofs.YtlhhflfljhdgkaaDoorW.PrintWords Go.Proofs.YtlhhflfljhdgkaaDoorW.PrintLast Go.Proofs.YtlhhflfljhdgkaaDoorW.PrintMore Go.Proofs.YtlhhflfljhdgkaaDoor.X Go.Proofs.YtlhhflfljhdgkaaDoor.Pl
theorem enc_small {l : List ByteArray} (h : codeB l = true) : l.length ≤ 12 ∧ ∀ i, i < l.length → (l.getD i ByteArray.empty).size ≤ 14 := by
  unfold codeB at h
  rw [Bool.and_eq_true, allN_iff] at h
  refine ⟨by have := h.1; simp only [Bool.and_eq_true, decide_eq_true_eq] at this; omega, fun i hi => ?_⟩
  have h2 := h.2 i hi
  simp only [Bool.and_eq_true, seqB, bitsB, decide_eq_true_eq] at h2
  omega
theorem enc_loops (l : List ByteArray) (hc : codeB l = true) (m : List Int) (hm : m.length ≤ 60) : ∃ r, Ev (fun k => spec_EncodeMessage.l0 k l m (⟨#[]⟩ : ByteArray) 0) r ∧ Ev (fun k => impl_EncodeMessage.l0 k l (⟨#[]⟩ : ByteArray) m (m.length : Int) 0) r := by
  obtain ⟨hl, hs⟩ := enc_small hc
  have key : ∀ q i a, m.length - i = q → i ≤ m.length → a.size ≤ 14 * i → ∃ r, Ev (fun k => spec_EncodeMessage.l0 k l m a (i : Nat)) r ∧ Ev (fun k => impl_EncodeMessage.l0 k l a m (m.length : Int) (i : Nat)) r := by
    intro q
    induction q with
    | zero =>
      intro i a hq hi ha
      exact ⟨(a, true), Ev.step (fun k => by simp only [spec_EncodeMessage.l0]; rfl) (ev_neg (by omega) (ev_eq rfl)), Ev.step (fun k => by simp only [impl_EncodeMessage.l0]; rfl) (ev_neg (by omega) (ev_eq rfl))⟩
    | succ q ih =>
      intro i a hq hi ha
      have hi2 : i < m.length := by omega
      have hlen : wrap64 ((l.length : Int) - 1) = (l.length : Int) - 1 := w64 (by omega) (by omega)
      cases hin : (decide (0 ≤ m.getD i 0) && decide (m.getD i 0 ≤ (l.length : Int) - 1)) with
      | false =>
        refine ⟨(⟨#[]⟩, false), Ev.step (fun k => by simp only [spec_EncodeMessage.l0]; rfl) (ev_pos (by omega) (ev_pos (by omega) ?_)), Ev.step (fun k => by simp only [impl_EncodeMessage.l0]; rfl) (ev_pos (by omega) (ev_pos (by omega) (ev_pos (by omega) ?_)))⟩
        · simp only [rd_nat, hlen, l1In_eq, hin, Option.bind_some]; exact ev_neg (by decide) (ev_eq rfl)
        · simp only [rd_nat, hlen, in_eq, hin, Option.bind_some]; exact ev_neg (by decide) (ev_eq rfl)
      | true =>
        have hin2 := hin
        simp only [Bool.and_eq_true, decide_eq_true_eq] at hin2
        obtain ⟨j, hj⟩ : ∃ j : Nat, m.getD i 0 = j := ⟨(m.getD i 0).toNat, by omega⟩
        have hjl : j < l.length := by omega
        rw [hj] at hin
        have hsz := hs j hjl
        obtain ⟨r, h1, h2⟩ := ih (i + 1) (a ++ l.getD j ByteArray.empty) (by omega) (by omega) (by rw [ByteArray.size_append]; omega)
        refine ⟨r, Ev.step (fun k => by simp only [spec_EncodeMessage.l0]; rfl) (ev_pos (by omega) (ev_pos (by omega) ?_)), Ev.step (fun k => by simp only [impl_EncodeMessage.l0]; rfl) (ev_pos (by omega) (ev_pos (by omega) (ev_pos (by omega) ?_)))⟩
        · simp only [rd_nat, hlen, l1In_eq, hj, hin, Option.bind_some, rdOf_nat, inc (show i ≤ 9223372036854775806 by omega)]
          exact ev_pos (by simp) (ev_pos (by omega) (ev_pos (by omega) (ev_pos (by omega) h1)))
        · simp only [rd_nat, hlen, in_eq, hj, hin, Option.bind_some, rdOf_nat, inc (show i ≤ 9223372036854775806 by omega)]
          exact ev_pos (by simp) (ev_pos (by omega) (ev_pos (by omega) (ev_pos (by omega) h2)))
  exact key _ 0 _ rfl (by omega) (by decide)
theorem enc_both (l : List ByteArray) (hl : l.length * 16 ≤ 140737488351232) (hs : ∀ y ∈ l, y.size ≤ 140737488351232) (m : List Int) : ∃ r, Ev (fun k => spec_EncodeMessage.f k l m) r ∧ Ev (fun k => impl_EncodeMessage.f k l m) r := by
  unfold spec_EncodeMessage.f impl_EncodeMessage.f
  cases hc : codeB l with
  | false =>
    exact ⟨(⟨#[]⟩, false), Ev.bind (l10Code_ev l hl hs) (ev_neg (by rw [hc]; decide) (Ev.step (fun k => by simp only [spec_EncodeMessage.j0]; rfl) (ev_pos (by simp) (ev_eq rfl)))), Ev.bind (isCode_ev l hl hs) (ev_neg (by rw [hc]; decide) (Ev.step (fun k => by simp only [impl_EncodeMessage.j0]; rfl) (ev_pos (by simp) (ev_eq rfl))))⟩
  | true =>
    by_cases hm : (m.length : Int) > 60
    · exact ⟨(⟨#[]⟩, false), Ev.bind (l10Code_ev l hl hs) (ev_pos hc (Ev.step (fun k => by simp only [spec_EncodeMessage.j0]; rfl) (ev_pos (by simp; omega) (ev_eq rfl)))), Ev.bind (isCode_ev l hl hs) (ev_pos hc (Ev.step (fun k => by simp only [impl_EncodeMessage.j0]; rfl) (ev_pos (by simp; omega) (ev_eq rfl))))⟩
    · obtain ⟨r, h1, h2⟩ := enc_loops l hc m (by omega)
      exact ⟨r, Ev.bind (l10Code_ev l hl hs) (ev_pos hc (Ev.step (fun k => by simp only [spec_EncodeMessage.j0]; rfl) (ev_neg (by simp; omega) h1))), Ev.bind (isCode_ev l hl hs) (ev_pos hc (Ev.step (fun k => by simp only [impl_EncodeMessage.j0]; rfl) (ev_neg (by simp; omega) h2)))⟩
theorem FnExactEncodeMessage : ∀ (l0 : List ByteArray) (l1 : List Int), (l0.length * 16 ≤ 140737488351232 ∧ ∀ y ∈ l0, y.size ≤ 140737488351232) → (l1.length * 8 ≤ 140737488351232 ∧ ∀ y ∈ l1, (Lit.int .i64 y).wf = true) → ∃ k, laws_FnExactEncodeMessage.f k l0 l1 = some true := by
  rintro l m ⟨hl, hs⟩ ⟨hm, _⟩
  refine Ev.rounds (r := true) ?_
  obtain ⟨r, hr, _, _⟩ := szStringS_ev l 1048576 (by omega) (by omega) hl hs
  obtain ⟨⟨a, b⟩, h1, h2⟩ := enc_both l hl hs m
  unfold laws_FnExactEncodeMessage.f
  refine ev_ite (fun _ => ev_eq rfl) (fun _ => ?_)
  refine Ev.bind hr (ev_ite (fun _ => ev_eq rfl) (fun _ => ?_))
  refine Ev.bind (toStringS_ev l hl) (Ev.bind (toIntS_ev m hm) (Ev.bind h1 (Ev.bind (toStringS_ev l hl) (Ev.bind (toIntS_ev m hm) (Ev.bind h2 (ev_pos rfl ?_))))))
  refine Ev.step (fun k => by simp only [laws_FnExactEncodeMessage.j0]; rfl) (ev_neg (by simp) ?_)
  refine Ev.bind (toStringS_ev l hl) (Ev.bind (eqStringS_ev l l (by omega)) (ev_pos (by simp) ?_))
  exact Ev.bind (toIntS_ev m hm) (Ev.bind (eqIntS_ev m m (by omega)) (ev_pos (by simp) (ev_eq rfl)))
end Go.Proofs.YtlhhflfljhdgkaaDoor.Pure
