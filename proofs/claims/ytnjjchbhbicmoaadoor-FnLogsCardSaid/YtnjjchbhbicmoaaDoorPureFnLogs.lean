/- Plain: appended records are those of the log in order, also behind SyncLog. -/
import Derived.Test.YtnjjchbhbicmoaaDoorX19
import Derived.Test.YtnjjchbhbicmoaaDoorLogMore
import Derived.Test.YtnjjchbhbicmoaaDoorDraw
import Derived.Test.YtnjjchbhbicmoaaDoorDrawLog
set_option linter.unusedVariables false
set_option linter.unusedSimpArgs false
namespace Go.Proofs.YtnjjchbhbicmoaaDoor.Pure
open Go.RowKit Go.Proofs.YtnjjchbhbicmoaaDoorW.PrintWords Go.Proofs.YtnjjchbhbicmoaaDoorW.PrintLast Go.Proofs.YtnjjchbhbicmoaaDoorW.PrintMore Go.Proofs.YtnjjchbhbicmoaaDoor.X Go.Proofs.YtnjjchbhbicmoaaDoor.Pl
theorem sync_ev (d p : ByteArray) (n : Int) (hd : d.size ≤ 1048576) (hp : p.size ≤ 1048576) : ∃ t : ByteArray × ByteArray × Int × Bool, Ev (fun k => impl_SyncLog.f k d p n) t ∧ Ev (fun k => spec_SyncLog.f k d p n) t ∧ (t.2.2.2 = okLog d p n) ∧ (okLog d p n = true → t = (d ++ p, (⟨#[]⟩ : ByteArray), n, true)) ∧ t.1.size ≤ 1048576 ∧ t.2.1.size ≤ 1048576 := by
  unfold spec_SyncLog.f impl_SyncLog.f
  have e1 := l12Valid_ev d p n hd hp
  have e2 := impl_IsValidLog_ev d p n hd hp
  cases hok : okLog d p n with
  | true =>
    rw [hok] at e1 e2
    obtain ⟨_, _, hs⟩ := okLog_n hok
    exact ⟨(d ++ p, (⟨#[]⟩ : ByteArray), n, true), Ev.bind e2 (ev_pos rfl (ev_pos (by first | omega | (simp only; omega)) (ev_eq rfl))), Ev.bind e1 (ev_pos rfl (ev_pos (by first | omega | (simp only; omega)) (ev_eq rfl))), rfl, fun _ => rfl, (by rw [size_append]; omega), (by show (⟨#[]⟩ : ByteArray).size ≤ 1048576; decide)⟩
  | false =>
    rw [hok] at e1 e2
    exact ⟨((⟨#[]⟩ : ByteArray), (⟨#[]⟩ : ByteArray), (0 : Int), false), Ev.bind e2 (ev_neg (by simp) (ev_eq rfl)), Ev.bind e1 (ev_neg (by simp) (ev_eq rfl)), rfl, fun h => absurd h (by simp), by decide, by decide⟩
theorem app_size {d p : ByteArray} {n : Int} {c r : ByteArray} (hd : d.size ≤ 1000000) (hp : p.size ≤ 1000000) (hc : c.size ≤ 100000) (hr : r.size ≤ 100000) : (appOf d p n c r).1.size ≤ 1048576 ∧ (appOf d p n c r).2.1.size ≤ 1048576 := by
  unfold appOf
  by_cases h : okLog d p n = true ∧ recB c r = true
  · rw [if_pos h]
    by_cases h40 : n = 40
    · rw [if_pos h40]; exact ⟨by simp only; omega, by simp only; omega⟩
    · rw [if_neg h40]
      obtain ⟨q1, q2, q3⟩ := okLog_n h.1
      obtain ⟨r1, r2, _⟩ := recB_parts h.2
      have a1 := body_size n c r
      have a2 := sum_size (bodyB n c r)
      have a3 := seal_size (bodyB n c r)
      have a4 := numI_size (n := n) (by omega) (by omega)
      have a5 : (lineB n c r).size = (sealB (bodyB n c r)).size + 1 := by unfold lineB; rw [size_append]; rfl
      exact ⟨by simp only; omega, by simp only [size_append]; omega⟩
  · rw [if_neg h]; exact ⟨by simp only; omega, by simp only; omega⟩
theorem FnLogs : ∀ (l0 : List Int), (l0.length * 1 ≤ 140737488351232 ∧ ∀ y ∈ l0, (Lit.int .u8 y).wf = true) → ∃ k, laws_FnLogs.f k l0 = some true := by
  intro l ⟨_, hl0⟩
  have hl : isCodeB l := code_of_wf hl0
  refine Ev.rounds (r := true) ?_
  unfold laws_FnLogs.f laws_vBig.f
  refine ev_some (ev_ite (fun _ => ev_eq rfl) (fun hb => ?_))
  have hlen : l.length ≤ 65536 := by simp at hb; omega
  obtain ⟨⟨ec, er⟩, he, hec, her⟩ := drawRecord_ev hl
  obtain ⟨l1, hl1, hc1, hn1⟩ := vCut_ev hl hlen (c := 1) (by omega)
  obtain ⟨l2, hl2, hc2, hn2⟩ := vCut_ev hl hlen (c := 2) (by omega)
  obtain ⟨l3, hl3, hc3, hn3⟩ := vCut_ev hl hlen (c := 3) (by omega)
  obtain ⟨⟨ek, fc, fr⟩, hf, hfc, hfr⟩ := drawEncode_ev hc1
  obtain ⟨⟨d2, p2, n2⟩, h2, hd2, hp2⟩ := drawLog_ev hc2
  obtain ⟨⟨d, p, n, gc, gr⟩, h3, hd, hp, hgc, hgr⟩ := drawAppend_ev hc3
  simp only at hec her hfc hfr hd2 hp2 hd hp hgc hgr
  rw [he, hl1, hl2, hl3]
  refine ev_some (ev_some ?_)
  rw [hf]
  refine ev_some ?_
  refine Ev.bind (impl_EncodeRecord_ev ek fc fr (by omega) (by omega)) (Ev.bind (spec_EncodeRecord_ev ek fc fr (by omega) (by omega)) (ev_some (Ev.bind h2 (ev_some (Ev.bind h3 ?_)))))
  refine Ev.bind (impl_AppendRecord_ev d p n gc gr (by omega) (by omega) (by omega) (by omega)) (Ev.bind (spec_AppendRecord_ev d p n gc gr (by omega) (by omega) (by omega) (by omega)) ?_)
  refine Ev.bind (implRecord_ev ec er (by omega) (by omega)) (Ev.bind (a := recB ec er) (by unfold spec_IsValidRecord.f; exact Ev.bind (l12Record_ev ec er (by omega) (by omega)) (ev_eq rfl)) ?_)
  refine ev_neg (by simp) (ev_pos rfl (ev_neg (by simp) ?_))
  refine Ev.bind (impl_IsValidLog_ev d2 p2 n2 (by omega) (by omega)) (Ev.bind (a := okLog d2 p2 n2) (by unfold spec_IsValidLog.f; exact Ev.bind (l12Valid_ev d2 p2 n2 (by omega) (by omega)) (ev_eq rfl)) ?_)
  refine ev_neg (by simp) (ev_neg (by simp) ?_)
  -- the log and what is appended
  obtain ⟨hs1, hs2⟩ := app_size (n := n) hd hp hgc hgr
  rw [show ((appOf d p n gc gr).2.2.2 != (appOf d p n gc gr).2.2.2) = false by simp]
  refine Ev.step (fun k => by unfold laws_FnLogs.j0; rfl) (ev_neg (by simp) ?_)
  obtain ⟨⟨kd, kp, kn, kb⟩, ks1, ks2, ks3, ks4, ks5, ks6⟩ := sync_ev d p n (by omega) (by omega)
  refine Ev.bind ks1 (Ev.bind ks2 ?_)
  have hlr : Ev (fun k => impl_LogRecords.f k d p n) (recsOf d p n) := by unfold impl_LogRecords.f; exact Ev.bind (Log_records_ev d p n (by omega) (by omega)) (ev_eq rfl)
  have hlr2 := spec_LogRecords_ev d p n (by omega) (by omega)
  have hlen2 : (recsOf d p n).1.length ≤ 40 := by
    cases hok : okLog d p n with
    | true => rw [recsOf_ok hok]; exact allOf_length _
    | false => rw [recsOf_no hok]; exact Nat.zero_le _
  refine Ev.bind hlr (Ev.bind hlr2 ?_)
  refine ev_neg (by simp) (ev_neg (by simp) (ev_neg (by simp) (Ev.bind (vRecords_ev _ (by omega)) ?_)))
  simp only at ks3 ks5 ks6
  refine Ev.step (fun k => by unfold laws_FnLogs.j1; rfl) (ev_neg (by simp) ?_)
  have hlr3 : Ev (fun k => impl_LogRecords.f k kd kp kn) (recsOf kd kp kn) := by unfold impl_LogRecords.f; exact Ev.bind (Log_records_ev kd kp kn (by omega) (by omega)) (ev_eq rfl)
  refine Ev.bind hlr3 ?_
  -- the last part
  have last : Ev (fun k => laws_FnLogs.j2 k (appOf d p n gc gr).2.2.2 (recsOf d p n).1 false d p n gc gr (appOf d p n gc gr).1 (appOf d p n gc gr).2.1 (appOf d p n gc gr).2.2.1) true := by
    refine Ev.step (fun k => by unfold laws_FnLogs.j2; rfl) (ev_neg (by simp) ?_)
    by_cases h : okLog d p n = true ∧ recB gc gr = true
    · by_cases h40 : n = 40
      · have e : appOf d p n gc gr = (d, p, n, 2) := by unfold appOf; rw [if_pos h, if_pos h40]
        rw [e]
        exact ev_neg (by simp) (ev_eq (by simp))
      · have e : appOf d p n gc gr = (d, p ++ lineB n gc gr, n + 1, 0) := by unfold appOf; rw [if_pos h, if_neg h40]
        obtain ⟨m1, m2⟩ := all_more h.1 h40 h.2
        obtain ⟨o1, o2, o3, o4⟩ := okLog_parts h.1
        have hle := allOf_length (d ++ p)
        have hsz : (d ++ (p ++ lineB n gc gr)).size ≤ 30000 := line_size40 h.1 h40 h.2
        have ok2 : okLog d (p ++ lineB n gc gr) (n + 1) = true := by
          unfold okLog
          rw [m1, m2]
          simp only [Bool.and_eq_true, decide_eq_true_eq, List.length_append, List.length_cons, List.length_nil]
          have hz1 := size_append d (p ++ lineB n gc gr)
          exact ⟨by omega, hz1, o3, by omega⟩
        rw [e] at hs1 hs2 ⊢
        simp only at hs1 hs2
        have hr2 : Ev (fun k => impl_LogRecords.f k d (p ++ lineB n gc gr) (n + 1)) (recsOf d (p ++ lineB n gc gr) (n + 1)) := by unfold impl_LogRecords.f; exact Ev.bind (Log_records_ev _ _ _ (by omega) (by omega)) (ev_eq rfl)
        rw [recsOf_ok ok2, m1] at hr2
        rw [recsOf_ok h.1]
        refine ev_pos rfl (Ev.bind hr2 (Ev.bind (impl_IsValidLog_ev _ _ _ (by omega) (by omega)) ?_))
        rw [ok2]
        have hlen3 : (allOf (d ++ p) ++ [(⟨gc, gr⟩ : S33)]).length = (allOf (d ++ p)).length + 1 := by simp
        have htk : ((allOf (d ++ p) ++ [(⟨gc, gr⟩ : S33)]).take (((allOf (d ++ p)).length : Int) : Int).toNat) = allOf (d ++ p) := by
          rw [Int.toNat_natCast, List.take_left]
        simp only [hlen3]
        refine ev_pos (by first | rfl | trivial) (ev_pos (by rw [w64 (by omega) (by omega)]; omega) (ev_pos (by omega) (ev_pos (by omega) ?_)))
        rw [htk]
        refine Ev.bind (vRecords_ev _ (by omega)) (ev_pos rfl (ev_pos (by omega) (ev_eq ?_)))
        have hg : rd_T33 (allOf (d ++ p) ++ [(⟨gc, gr⟩ : S33)]) ((allOf (d ++ p)).length : Int) = ⟨gc, gr⟩ := by
          unfold rd_T33
          rw [Int.toNat_natCast, List.getD_eq_getElem?_getD, List.getElem?_append_right (Nat.le_refl _)]
          simp
        rw [hg]
        simp
    · have e : appOf d p n gc gr = (d, p, n, 1) := by unfold appOf; rw [if_neg h]
      rw [e]
      exact ev_neg (by simp) (ev_eq (by simp))
  cases hok : okLog d p n with
  | true =>
    have hk := ks4 hok
    obtain ⟨rfl, rfl, rfl, rfl⟩ : kd = d ++ p ∧ kp = (⟨#[]⟩ : ByteArray) ∧ kn = n ∧ kb = true := by simpa using hk
    have e4 : (recsOf (d ++ p) (⟨#[]⟩ : ByteArray) kn).1 = (recsOf d p kn).1 := by
      rw [recsOf_ok (ok_sync hok), recsOf_ok hok, nil_app]
    rw [e4]
    refine ev_pos rfl (Ev.bind (vRecords_ev _ (by omega)) ?_)
    exact last
  | false =>
    rw [hok] at ks3
    rw [ks3]
    exact ev_neg (by simp) last
end Go.Proofs.YtnjjchbhbicmoaaDoor.Pure
