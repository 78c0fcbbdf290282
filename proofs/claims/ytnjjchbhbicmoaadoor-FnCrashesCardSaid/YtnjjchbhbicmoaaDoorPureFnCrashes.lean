/- Plain: what RecoverLog reads behind a crash are all durable records and some of the pending ones in order. -/
import Derived.Test.YtnjjchbhbicmoaaDoorX15
import Derived.Test.YtnjjchbhbicmoaaDoorCrashMore
set_option linter.unusedVariables false
set_option linter.unusedSimpArgs false
namespace Go.Proofs.YtnjjchbhbicmoaaDoor.Pure
open Go.RowKit Go.Proofs.YtnjjchbhbicmoaaDoorW.PrintWords Go.Proofs.YtnjjchbhbicmoaaDoorW.PrintLast Go.Proofs.YtnjjchbhbicmoaaDoorW.PrintMore Go.Proofs.YtnjjchbhbicmoaaDoor.X Go.Proofs.YtnjjchbhbicmoaaDoor.Pl
theorem flip_size (t : Bool) (s : ByteArray) : (flipB t s).size = s.size := by
  by_cases h : t = true ∧ 0 < s.size
  · obtain ⟨rfl, hs⟩ := h
    rw [← bytes_size, bytes_flip s hs, List.length_set, bytes_size]
  · rw [flip_no h]
theorem FnCrashes : ∀ (l0 : List Int), (l0.length * 1 ≤ 140737488351232 ∧ ∀ y ∈ l0, (Lit.int .u8 y).wf = true) → ∃ k, laws_FnCrashes.f k l0 = some true := by
  intro l ⟨_, hl0⟩
  have hl : isCodeB l := code_of_wf hl0
  refine Ev.rounds (r := true) ?_
  unfold laws_FnCrashes.f laws_vBig.f
  refine ev_some (ev_ite (fun _ => ev_eq rfl) (fun hb => ?_))
  have hlen : l.length ≤ 65536 := by simp at hb; omega
  obtain ⟨⟨d, p, n, keep, torn⟩, h1, hd, hp⟩ := drawCrash_ev hl
  simp only at hd hp
  obtain ⟨l1, hl1, hc1, hn1⟩ := vCut_ev hl hlen (c := 1) (by omega)
  obtain ⟨t, ht⟩ := drawRecover_ev hc1
  refine Ev.bind h1 (Ev.bind (implCrash_ev d p n keep torn (by omega)) (Ev.bind (specCrash_ev d p n keep torn (by omega)) ?_))
  rw [hl1]
  refine ev_some (Ev.bind ht (Ev.bind (impl_RecoverLog_ev t) (Ev.bind (spec_RecoverLog_ev t) ?_)))
  refine ev_pos rfl (ev_neg (by simp) (ev_neg (by simp) (ev_pos rfl ?_)))
  rw [show ((recov t).2.2.2.2 != (recov t).2.2.2.2) = false by simp]
  refine Ev.step (fun k => by unfold laws_FnCrashes.j0; rfl) (ev_neg (by simp) ?_)
  by_cases hok : okLog d p n = true ∧ (0 ≤ keep ∧ keep ≤ (p.size : Int))
  case neg =>
    have e : crashOf d p n keep torn = ((⟨#[]⟩ : ByteArray), false) := by unfold crashOf; rw [if_neg hok]
    rw [e]
    exact ev_neg (by simp) (ev_eq rfl)
  case pos =>
    have e : crashOf d p n keep torn = (d ++ flipB torn (p.extract 0 keep.toNat), true) := by unfold crashOf; rw [if_pos hok]
    obtain ⟨ho, k0, k1⟩ := hok
    obtain ⟨o1, o2, o3, o4⟩ := okLog_parts ho
    obtain ⟨c1, c2, c3⟩ := crash_read (torn := torn) ho k0 k1
    have hz : (d ++ flipB torn (p.extract 0 keep.toNat)).size ≤ 30000 := by
      rw [size_append, flip_size, ByteArray.size_extract]; omega
    rw [e]
    simp only
    generalize d ++ flipB torn (p.extract 0 keep.toNat) = s at c1 c2 c3 hz ⊢
    obtain ⟨a1, a2⟩ := allOf_part s
    have hle := endOf_le s
    have hesz : (s.extract 0 (endOf s)).size = endOf s := by rw [ByteArray.size_extract]; omega
    have er : recov s = (s.extract 0 (endOf s), (⟨#[]⟩ : ByteArray), ((allOf s).length : Int), (endOf s : Int), true) := by unfold recov; rw [if_neg (by omega)]
    have e0 : (⟨#[]⟩ : ByteArray).size = 0 := rfl
    have okb : okLog (s.extract 0 (endOf s)) (⟨#[]⟩ : ByteArray) ((allOf s).length : Int) = true := by
      unfold okLog
      rw [nil_app, a1, e0, Nat.add_zero]
      simp only [Bool.and_eq_true, decide_eq_true_eq]
      exact ⟨by omega, a2, a2, trivial⟩
    have hrec := impl_RecoverLog_ev s
    rw [er] at hrec
    refine ev_pos (by first | rfl | trivial) (Ev.bind hrec (ev_pos (by first | rfl | trivial) ?_))
    simp only
    have hv := impl_IsValidLog_ev (s.extract 0 (endOf s)) (⟨#[]⟩ : ByteArray) ((allOf s).length : Int) (by omega) (by omega)
    rw [okb] at hv
    refine Ev.bind hv (ev_pos (by first | rfl | trivial) (ev_neg (by omega) ?_))
    rw [hesz, show ((endOf s : Int) != (endOf s : Int)) = false by simp]
    refine Ev.step (fun k => by unfold laws_FnCrashes.j1; rfl) (ev_neg (by simp) ?_)
    have hr1 : Ev (fun k => impl_LogRecords.f k d p n) (allOf (d ++ p), true) := by
      have := Log_records_ev d p n (by omega) (by omega)
      rw [recsOf_ok ho] at this
      unfold impl_LogRecords.f; exact Ev.bind this (ev_eq rfl)
    have hr2 : Ev (fun k => impl_LogRecords.f k (s.extract 0 (endOf s)) (⟨#[]⟩ : ByteArray) ((allOf s).length : Int)) (allOf s, true) := by
      have := Log_records_ev (s.extract 0 (endOf s)) (⟨#[]⟩ : ByteArray) ((allOf s).length : Int) (by omega) (by omega)
      rw [recsOf_ok okb, nil_app, a1] at this
      unfold impl_LogRecords.f; exact Ev.bind this (ev_eq rfl)
    refine Ev.bind hr1 (Ev.bind hr2 ?_)
    have hl2 := c1.length_le
    have hlen2 := allOf_length (d ++ p)
    refine ev_pos (by simp only; omega) (ev_pos (by simp only; omega) ?_)
    have htk : (allOf (d ++ p)).take (((allOf s).length : Int) : Int).toNat = allOf s := by
      rw [Int.toNat_natCast]
      exact (List.prefix_iff_eq_take.1 c1).symm
    simp only [htk]
    refine Ev.bind (vRecords_ev _ (by omega)) (ev_pos rfl ?_)
    cases torn with
    | true => exact ev_pos rfl (ev_eq rfl)
    | false =>
      refine ev_neg (by simp) (ev_ite (fun _ => ev_eq rfl) (fun hk => ev_eq ?_))
      rw [c3 rfl hk]
      simp
end Go.Proofs.YtnjjchbhbicmoaaDoor.Pure
