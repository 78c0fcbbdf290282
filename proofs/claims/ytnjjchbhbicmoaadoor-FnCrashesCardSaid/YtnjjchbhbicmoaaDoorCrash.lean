/- Plain: what survives a crash: the program's and the reference's. -/
import Derived.Test.YtnjjchbhbicmoaaDoorX9
import Derived.Test.YtnjjchbhbicmoaaDoorLogMore
set_option linter.unusedVariables false
set_option linter.unusedSimpArgs false
namespace Go.Proofs.YtnjjchbhbicmoaaDoor.Pl
open Go.RowKit Go.Proofs.YtnjjchbhbicmoaaDoorW.PrintWords Go.Proofs.YtnjjchbhbicmoaaDoorW.PrintLast Go.Proofs.YtnjjchbhbicmoaaDoorW.PrintMore Go.Proofs.YtnjjchbhbicmoaaDoor.X
/-- The bytes that survive. -/
def crashOf (d p : ByteArray) (n keep : Int) (torn : Bool) : ByteArray × Bool :=
  if okLog d p n = true ∧ (0 ≤ keep ∧ keep ≤ (p.size : Int)) then (d ++ flipB torn (p.extract 0 keep.toNat), true) else ((⟨#[]⟩ : ByteArray), false)
theorem bytesOf_str {xs : List Int} (h : ∀ x ∈ xs, 0 ≤ x ∧ x ≤ 255) : bytesOf (strOfNums xs) = xs := by
  unfold strOfNums bytesOf
  simp only [List.map_map]
  rw [List.map_congr_left (g := id) (fun x hx => ?_), List.map_id]
  have := h x hx
  simp only [Function.comp_def, id]
  rw [show (UInt8.ofNat x.toNat).toNat = x.toNat % 256 from by simp]
  omega
theorem bytes_flip (s : ByteArray) (hs : 0 < s.size) : bytesOf (flipB true s) = (bytesOf s).set (s.size - 1) (255 - bt s ((s.size - 1 : Nat) : Int)) := by
  unfold flipB
  rw [if_pos ⟨rfl, hs⟩]
  refine bytesOf_str (fun x hx => ?_)
  rcases List.mem_or_eq_of_mem_set hx with h | h
  · exact bytes_range h
  · have := Go.Proofs.YtnjjchbhbicmoaaDoor.X.bt_range s (s.size - 1); omega
theorem flip_no {t : Bool} {s : ByteArray} (h : ¬ (t = true ∧ 0 < s.size)) : flipB t s = s := by unfold flipB; rw [if_neg h]
theorem flip_app (d s : ByteArray) (t : Bool) : flipB (t && decide (0 < s.size)) (d ++ s) = d ++ flipB t s := by
  by_cases h : t = true ∧ 0 < s.size
  · obtain ⟨rfl, hs⟩ := h
    rw [decide_eq_true hs, Bool.and_true]
    have hz : (d ++ s).size = d.size + s.size := size_append d s
    refine bytes_inj ?_
    rw [bytes_flip _ (by omega), bytes_append, bytes_append, bytes_flip s hs]
    have e1 : bt (d ++ s) (((d ++ s).size - 1 : Nat) : Int) = bt s ((s.size - 1 : Nat) : Int) := by
      rw [bt_eq, bt_eq, bytes_append, List.getD_eq_getElem?_getD, List.getD_eq_getElem?_getD, List.getElem?_append_right (by rw [bytes_size]; omega), bytes_size]
      congr 2
      omega
    rw [e1, List.set_append_right _ _ (by rw [bytes_size]; omega), bytes_size, hz]
    congr 2
    omega
  · rw [flip_no h, flip_no (fun h2 => h (by simpa using h2.1))]
theorem crashOf_yes {d p : ByteArray} {n keep : Int} {torn : Bool} (h : okLog d p n = true) (h2 : 0 ≤ keep ∧ keep ≤ (p.size : Int)) : crashOf d p n keep torn = (d ++ flipB torn (p.extract 0 keep.toNat), true) := if_pos ⟨h, h2⟩
theorem crashOf_no {d p : ByteArray} {n keep : Int} {torn : Bool} (h : ¬ (okLog d p n = true ∧ (0 ≤ keep ∧ keep ≤ (p.size : Int)))) : crashOf d p n keep torn = ((⟨#[]⟩ : ByteArray), false) := if_neg h
theorem specCrash_ev (d p : ByteArray) (n keep : Int) (torn : Bool) (hz : d.size + p.size ≤ 1048576) : Ev (fun k => spec_CrashLog.f k d p n keep torn) (crashOf d p n keep torn) := by
  unfold spec_CrashLog.f
  have hv := l12Valid_ev d p n (by omega) (by omega)
  by_cases h : okLog d p n = true
  · have hs := (okLog_n h).2.2
    rw [h] at hv
    by_cases h2 : 0 ≤ keep ∧ keep ≤ (p.size : Int)
    · rw [crashOf_yes h h2]
      exact Ev.bind hv (ev_pos rfl (ev_pos h2 (ev_pos (by omega) (ev_eq rfl))))
    · rw [crashOf_no (fun h3 => h2 h3.2)]
      exact Ev.bind hv (ev_pos rfl (ev_neg h2 (ev_eq rfl)))
  · rw [crashOf_no (fun h3 => h h3.1)]
    exact Ev.bind hv (ev_neg h (ev_eq rfl))
theorem implCrash_ev (d p : ByteArray) (n keep : Int) (torn : Bool) (hz : d.size + p.size ≤ 1048576) : Ev (fun k => impl_CrashLog.f k d p n keep torn) (crashOf d p n keep torn) := by
  unfold impl_CrashLog.f
  have hv := impl_IsValidLog_ev d p n (by omega) (by omega)
  by_cases h : okLog d p n = true
  · have hs := (okLog_n h).2.2
    rw [h] at hv
    by_cases h2 : 0 ≤ keep ∧ keep ≤ (p.size : Int)
    · rw [crashOf_yes h h2]
      refine Ev.bind hv (ev_pos rfl (ev_pos h2 (ev_pos (by omega) (ev_eq ?_))))
      have hk : (p.extract 0 keep.toNat).size = keep.toNat := by rw [ByteArray.size_extract]; omega
      have := flip_app d (p.extract 0 keep.toNat) torn
      rw [hk, show decide (0 < keep.toNat) = decide (0 < keep) from decide_eq_decide.2 (by omega)] at this
      rw [this]
    · rw [crashOf_no (fun h3 => h2 h3.2)]
      exact Ev.bind hv (ev_pos rfl (ev_neg h2 (ev_eq rfl)))
  · rw [crashOf_no (fun h3 => h h3.1)]
    exact Ev.bind hv (ev_neg h (ev_eq rfl))
end Go.Proofs.YtnjjchbhbicmoaaDoor.Pl
