/- Plain: which logs are valid, and their records: the program's and the reference's. -/
import Derived.Test.YtnjjchbhbicmoaaDoorX6
import Derived.Test.YtnjjchbhbicmoaaDoorX8
import Derived.Test.YtnjjchbhbicmoaaDoorX11
import Derived.Test.YtnjjchbhbicmoaaDoorX14
import Derived.Test.YtnjjchbhbicmoaaDoorX16
import Derived.Test.YtnjjchbhbicmoaaDoorX18
import Derived.Test.YtnjjchbhbicmoaaDoorLogs
set_option linter.unusedVariables false
set_option linter.unusedSimpArgs false
namespace Go.Proofs.YtnjjchbhbicmoaaDoor.Pl
open Go.RowKit Go.Proofs.YtnjjchbhbicmoaaDoorW.PrintWords Go.Proofs.YtnjjchbhbicmoaaDoorW.PrintLast Go.Proofs.YtnjjchbhbicmoaaDoorW.PrintMore Go.Proofs.YtnjjchbhbicmoaaDoor.X

/-- All records of a text, as they are read. -/
def allOf (s : ByteArray) : List S33 := (rdAll 40 0 s).map (·.1)
def endOf (s : ByteArray) : Nat := lens (rdAll 40 0 s)
theorem endOf_le (s : ByteArray) : endOf s ≤ s.size := lens_le 40 0 s
theorem allOf_length (s : ByteArray) : (allOf s).length ≤ 40 := by unfold allOf; rw [List.length_map]; exact rdAll_length 40 0 s
theorem open_all (s : ByteArray) (hs : s.size ≤ 1048575) : Ev (fun k => spec_l12Open.f k s) (allOf s, (endOf s : Int)) := l12Open_ev s hs
theorem read_all (s : ByteArray) (hs : s.size ≤ 1048575) : ∃ ends : List Int, Ev (fun k => impl_readRecords.f k s) (allOf s, ends) ∧ ends.length = (allOf s).length + 1 ∧ rd ends ((allOf s).length : Int) = (endOf s : Int) ∧
    ∀ d p : ByteArray, s = d ++ p → ((d.size : Int) ∈ ends ↔ endOf d = d.size) := by
  refine ⟨0 :: endsOf 0 (rdAll 40 0 s), readRecords_ev s hs, ?_, ?_, ?_⟩
  · unfold allOf; rw [List.length_cons, ends_length, List.length_map]
  · have := ends_last 0 (rdAll 40 0 s)
    unfold allOf endOf
    rw [List.length_map]
    simpa using this
  · rintro d p rfl
    have := ends_mem 40 0 0 d p
    rw [Nat.zero_add] at this
    exact this
def recov (s : ByteArray) : ByteArray × ByteArray × Int × Int × Bool :=
  if s.size > 30000 then ((⟨#[]⟩ : ByteArray), (⟨#[]⟩ : ByteArray), 0, 0, false) else (s.extract 0 (endOf s), (⟨#[]⟩ : ByteArray), ((allOf s).length : Int), (endOf s : Int), true)
theorem spec_RecoverLog_ev (s : ByteArray) : Ev (fun k => spec_RecoverLog.f k s) (recov s) := by
  have hle := endOf_le s
  unfold spec_RecoverLog.f recov
  by_cases h : s.size > 30000
  · rw [if_pos h]; exact ev_pos (by omega) (ev_eq rfl)
  · rw [if_neg h]
    exact ev_neg (by omega) (Ev.bind (open_all s (by omega)) (ev_pos (by omega) (ev_pos (by omega) (ev_eq (by rw [Int.toNat_natCast])))))
theorem impl_RecoverLog_ev (s : ByteArray) : Ev (fun k => impl_RecoverLog.f k s) (recov s) := by
  have hle := endOf_le s
  unfold impl_RecoverLog.f recov
  by_cases h : s.size > 30000
  · rw [if_pos h]; exact ev_pos (by omega) (ev_eq rfl)
  · rw [if_neg h]
    obtain ⟨ends, h1, h2, h3, _⟩ := read_all s (by omega)
    refine ev_neg (by omega) (Ev.bind h1 ?_)
    simp only [h3]
    exact ev_pos (by omega) (ev_pos (by omega) (ev_pos (by omega) (ev_pos (by omega) (ev_eq (by rw [Int.toNat_natCast])))))
/-- A log is valid. -/
def okLog (d p : ByteArray) (n : Int) : Bool := decide (d.size + p.size ≤ 30000) && (decide (endOf (d ++ p) = d.size + p.size) && (decide (endOf d = d.size) && decide (((allOf (d ++ p)).length : Int) = n)))
theorem l12Valid_ev (d p : ByteArray) (n : Int) (hd : d.size ≤ 1048576) (hp : p.size ≤ 1048576) : Ev (fun k => spec_l12Valid.f k d p n) (okLog d p n) := by
  unfold spec_l12Valid.f okLog
  rw [w64 (by omega) (by omega)]
  by_cases h : d.size + p.size ≤ 30000
  · have hs : (d ++ p).size ≤ 1048575 := by rw [size_append]; omega
    rw [decide_eq_true h, Bool.true_and]
    refine ev_neg (by omega) (ev_pos (by omega) (Ev.bind (open_all (d ++ p) hs) (Ev.bind (open_all d (by omega)) ?_)))
    by_cases h1 : endOf (d ++ p) = d.size + p.size
    · rw [decide_eq_true h1, Bool.true_and]
      refine ev_pos (by simp only [h1]; omega) ?_
      by_cases h2 : endOf d = d.size
      · rw [decide_eq_true h2, Bool.true_and]
        refine ev_pos (by simp only [h2]) (ev_eq ?_)
        exact Bool.eq_iff_iff.2 (by rw [beq_iff_eq, decide_eq_true_iff])
      · rw [decide_eq_false h2, Bool.false_and]
        exact ev_neg (by simp only; omega) (ev_eq rfl)
    · rw [decide_eq_false h1, Bool.false_and]
      exact ev_neg (by simp only; omega) (ev_eq rfl)
  · rw [decide_eq_false h, Bool.false_and]
    exact ev_pos (by omega) (ev_eq rfl)
/-- A log's records, and whether it is valid. -/
def recsOf (d p : ByteArray) (n : Int) : List S33 × Bool := if okLog d p n = true then (allOf (d ++ p), true) else (([] : List S33), false)
theorem recsOf_ok {d p : ByteArray} {n : Int} (h : okLog d p n = true) : recsOf d p n = (allOf (d ++ p), true) := if_pos h
theorem recsOf_no {d p : ByteArray} {n : Int} (h : okLog d p n = false) : recsOf d p n = (([] : List S33), false) := if_neg (by rw [h]; simp)
theorem recsOf_2 (d p : ByteArray) (n : Int) : (recsOf d p n).2 = okLog d p n := by
  unfold recsOf; cases okLog d p n <;> rfl
theorem ends_loop (xs : List S33) (ends : List Int) (hl : ends.length ≤ 1000) (d p : ByteArray) (n : Int) :
    Ev (fun k => impl_Log_records.l0 k xs ends (ends.length : Int) 0 d p n) (if (d.size : Int) ∈ ends then (xs, true) else (([] : List S33), false)) := by
  have key := ev_down (g := fun k i => impl_Log_records.l0 k xs ends (ends.length : Int) (i : Nat) d p n) (R := fun i => if (d.size : Int) ∈ ends.drop i then (xs, true) else (([] : List S33), false)) ends.length
    (by
      refine Ev.step (fun k => by unfold impl_Log_records.l0; rfl) (ev_neg (by omega) (ev_eq ?_))
      rw [List.drop_length]; simp)
    (fun i hi ih => by
      refine Ev.step (fun k => by unfold impl_Log_records.l0; rfl) (ev_pos (by omega) (ev_pos (by omega) (ev_pos (by omega) ?_)))
      rw [drop_cons hi 0]
      have e : rd ends (i : Int) = ends.getD i 0 := rfl
      rw [e]
      by_cases h : ends.getD i 0 = (d.size : Int)
      · refine ev_pos h (ev_eq ?_)
        rw [if_pos (by rw [h]; exact List.mem_cons_self)]
      · refine ev_neg h ?_
        rw [inc (by omega)]
        have e2 : ((d.size : Int) ∈ ends.getD i 0 :: ends.drop (i + 1)) ↔ (d.size : Int) ∈ ends.drop (i + 1) := by
          rw [List.mem_cons, or_iff_right (fun hh => h hh.symm)]
        simp only [e2]
        exact ih)
  have := key 0 (Nat.zero_le _)
  simpa using this
theorem Log_records_ev (d p : ByteArray) (n : Int) (hd : d.size ≤ 1048576) (hp : p.size ≤ 1048576) : Ev (fun k => impl_Log_records.f k d p n) (recsOf d p n) := by
  have hz := size_append d p
  unfold impl_Log_records.f
  refine ev_pos (by omega) ?_
  by_cases h : d.size + p.size ≤ 30000
  · obtain ⟨ends, h1, h2, h3, h4⟩ := read_all (d ++ p) (by omega)
    have h5 := h4 d p rfl
    have h6 := allOf_length (d ++ p)
    refine ev_neg (by omega) (Ev.bind h1 (ev_pos (by omega) (ev_pos (by simp only; omega) ?_)))
    simp only [h3]
    have bad : okLog d p n = false → Ev (fun k => impl_Log_records.j0 k (allOf (d ++ p)) ends true d p n) (recsOf d p n) := by
      intro hb
      rw [recsOf_no hb]
      exact Ev.step (fun k => by unfold impl_Log_records.j0; rfl) (ev_pos rfl (ev_eq rfl))
    by_cases h7 : endOf (d ++ p) = d.size + p.size
    · refine ev_pos (by rw [h7]; omega) ?_
      by_cases h8 : ((allOf (d ++ p)).length : Int) = n
      · rw [show (((allOf (d ++ p)).length : Int) != n) = false by rw [h8]; simp]
        refine Ev.step (fun k => by unfold impl_Log_records.j0; rfl) (ev_neg (by simp) ?_)
        have hl := ends_loop (allOf (d ++ p)) ends (by omega) d p n
        by_cases h9 : endOf d = d.size
        · have hok : okLog d p n = true := by unfold okLog; rw [decide_eq_true h, decide_eq_true h7, decide_eq_true h9, decide_eq_true h8]; rfl
          rw [if_pos (h5.2 h9)] at hl
          rw [recsOf_ok hok]
          exact hl
        · have hno : okLog d p n = false := by unfold okLog; rw [decide_eq_false h9]; simp
          rw [if_neg (fun hh => h9 (h5.1 hh))] at hl
          rw [recsOf_no hno]
          exact hl
      · rw [show (((allOf (d ++ p)).length : Int) != n) = true by rw [bne_iff_ne]; exact h8]
        exact bad (by unfold okLog; rw [decide_eq_false h8]; simp)
    · refine ev_neg (fun hh => h7 (by omega)) (bad ?_)
      unfold okLog; rw [decide_eq_false h7]; simp
  · refine ev_pos (by omega) (ev_eq ?_)
    rw [recsOf_no (by unfold okLog; rw [decide_eq_false h]; rfl)]
theorem impl_IsValidLog_ev (d p : ByteArray) (n : Int) (hd : d.size ≤ 1048576) (hp : p.size ≤ 1048576) : Ev (fun k => impl_IsValidLog.f k d p n) (okLog d p n) := by
  unfold impl_IsValidLog.f
  exact Ev.bind (Log_records_ev d p n hd hp) (ev_eq (recsOf_2 d p n))
theorem sz_log {d p : ByteArray} {n : Int} (hc : d.size ≤ 140737488351232) (hr : p.size ≤ 140737488351232) : ∃ t, laws_szLog.f d p n 1048576 = some t ∧ (¬ t < 0 → d.size + p.size ≤ 1048576 ∧ t = 1048576 - ((d.size + p.size : Nat) : Int)) := by
  unfold laws_szLog.f
  rw [w64 (x := 1048576 - (d.size : Int)) (by omega) (by omega), w64 (x := 1048576 - (d.size : Int) - (p.size : Int)) (by omega) (by omega)]
  by_cases h1 : (1048576 : Int) - (d.size : Int) < 0
  · rw [if_pos h1]; exact ⟨_, rfl, fun h => absurd (show ((-1 : Int) < 0) by decide) h⟩
  · rw [if_neg h1]
    by_cases h2 : (1048576 : Int) - (d.size : Int) - (p.size : Int) < 0
    · rw [if_pos h2]; exact ⟨_, rfl, fun h => absurd (show ((-1 : Int) < 0) by decide) h⟩
    · rw [if_neg h2]; exact ⟨_, rfl, fun _ => ⟨by omega, by omega⟩⟩
/-- A log with a record more. -/
def appOf (d p : ByteArray) (n : Int) (c r : ByteArray) : ByteArray × ByteArray × Int × Int :=
  if okLog d p n = true ∧ recB c r = true then (if n = 40 then (d, p, n, 2) else (d, p ++ lineB n c r, n + 1, 0)) else (d, p, n, 1)
theorem okLog_n {d p : ByteArray} {n : Int} (h : okLog d p n = true) : 0 ≤ n ∧ n ≤ 40 ∧ d.size + p.size ≤ 30000 := by
  unfold okLog at h
  simp only [Bool.and_eq_true, decide_eq_true_eq] at h
  obtain ⟨h1, _, _, h4⟩ := h
  have := allOf_length (d ++ p)
  omega
theorem line_size {n : Int} {c r : ByteArray} (h0 : 0 ≤ n) (h1 : n ≤ 40) (hc : c.size ≤ 1048576) (hr : r.size ≤ 1048576) : (lineB n c r).size ≤ 2100000 := by
  have a1 := body_size n c r
  have a2 := sum_size (bodyB n c r)
  have a3 := seal_size (bodyB n c r)
  have a4 := numI_size (n := n) (by omega) (by omega)
  have a5 : (lineB n c r).size = (sealB (bodyB n c r)).size + 1 := by unfold lineB; rw [size_append]; rfl
  omega
theorem spec_AppendRecord_ev (d p : ByteArray) (n : Int) (c r : ByteArray) (hd : d.size ≤ 1048576) (hp : p.size ≤ 1048576) (hc : c.size ≤ 1048576) (hr : r.size ≤ 1048576) : Ev (fun k => spec_AppendRecord.f k d p n c r) (appOf d p n c r) := by
  have bad : ¬ (okLog d p n = true ∧ recB c r = true) → Ev (fun k => spec_AppendRecord.j0 k true d p n c r) (appOf d p n c r) := by
    intro h
    unfold appOf; rw [if_neg h]
    exact Ev.step (fun k => by unfold spec_AppendRecord.j0; rfl) (ev_pos rfl (ev_eq rfl))
  unfold spec_AppendRecord.f
  refine Ev.bind (l12Valid_ev d p n hd hp) (ev_ite (fun h => ?_) (fun h => bad (fun hh => h hh.1)))
  refine Ev.bind (l12Record_ev c r (by omega) (by omega)) ?_
  by_cases hrb : recB c r = true
  · rw [hrb]
    obtain ⟨q1, q2, q3⟩ := okLog_n h
    refine Ev.step (fun k => by unfold spec_AppendRecord.j0; rfl) (ev_neg (by simp) ?_)
    unfold appOf; rw [if_pos ⟨h, hrb⟩]
    by_cases h40 : n = 40
    · rw [if_pos h40]; exact ev_pos h40 (ev_eq rfl)
    · rw [if_neg h40]
      obtain ⟨m, rfl⟩ : ∃ m : Nat, n = m := ⟨n.toNat, by omega⟩
      have hl := line_size (n := (m : Int)) (c := c) (r := r) q1 q2 hc hr
      refine ev_neg h40 (Ev.bind (l12Line_ev m c r (by omega) hc hr) (ev_pos (by omega) (ev_eq ?_)))
      rw [w64 (by omega) (by omega)]
  · rw [Bool.eq_false_iff.2 hrb]; exact bad (fun hh => hrb hh.2)
theorem impl_AppendRecord_ev (d p : ByteArray) (n : Int) (c r : ByteArray) (hd : d.size ≤ 1048576) (hp : p.size ≤ 1048576) (hc : c.size ≤ 1048576) (hr : r.size ≤ 1048576) : Ev (fun k => impl_AppendRecord.f k d p n c r) (appOf d p n c r) := by
  have bad : ¬ (okLog d p n = true ∧ recB c r = true) → Ev (fun k => impl_AppendRecord.j0 k true d p n c r) (appOf d p n c r) := by
    intro h
    unfold appOf; rw [if_neg h]
    exact Ev.step (fun k => by unfold impl_AppendRecord.j0; rfl) (ev_pos rfl (ev_eq rfl))
  unfold impl_AppendRecord.f
  refine Ev.bind (impl_IsValidLog_ev d p n hd hp) (ev_ite (fun h => ?_) (fun h => bad (fun hh => h hh.1)))
  refine Ev.bind (implRecord_ev c r (by omega) (by omega)) ?_
  by_cases hrb : recB c r = true
  · rw [hrb]
    obtain ⟨q1, q2, q3⟩ := okLog_n h
    refine Ev.step (fun k => by unfold impl_AppendRecord.j0; rfl) (ev_neg (by simp) ?_)
    unfold appOf; rw [if_pos ⟨h, hrb⟩]
    by_cases h40 : n = 40
    · rw [if_pos h40]; exact ev_pos h40 (ev_eq rfl)
    · rw [if_neg h40]
      have hl := line_size (n := n) (c := c) (r := r) q1 q2 hc hr
      refine ev_neg h40 (Ev.bind (impl_EncodeRecord_ev n c r hc hr) ?_)
      rw [encB_ok q1 (by omega) hrb]
      refine ev_pos (by simp only; omega) (ev_eq ?_)
      rw [w64 (by omega) (by omega)]
  · rw [Bool.eq_false_iff.2 hrb]; exact bad (fun hh => hrb hh.2)
end Go.Proofs.YtnjjchbhbicmoaaDoor.Pl
