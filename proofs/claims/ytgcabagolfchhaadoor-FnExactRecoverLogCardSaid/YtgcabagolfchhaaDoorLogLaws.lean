/- Plain: which logs are valid, and their records: the program's and the reference's. -/
import Derived.Test.YtgcabagolfchhaaDoorX4
import Derived.Test.YtgcabagolfchhaaDoorX6
import Derived.Test.YtgcabagolfchhaaDoorLogs
set_option linter.unusedVariables false
set_option linter.unusedSimpArgs false
namespace Go.Proofs.YtgcabagolfchhaaDoor.Pl
open Go.RowKit Go.Proofs.YtgcabagolfchhaaDoorW.PrintWords Go.Proofs.YtgcabagolfchhaaDoorW.PrintLast Go.Proofs.YtgcabagolfchhaaDoorW.PrintMore Go.Proofs.YtgcabagolfchhaaDoor.X

/-- All records of a text, as they are read. -/
def allOf (s : ByteArray) : List S27 := (rdAll 40 0 s).map (·.1)
def endOf (s : ByteArray) : Nat := lens (rdAll 40 0 s)
theorem endOf_le (s : ByteArray) : endOf s ≤ s.size := lens_le 40 0 s
theorem allOf_length (s : ByteArray) : (allOf s).length ≤ 40 := by unfold allOf; rw [List.length_map]; exact rdAll_length 40 0 s
theorem open_all (s : ByteArray) (hs : s.size ≤ 1048575) : Ev (fun k => spec_l12Open.f k s) (allOf s, (endOf s : Int)) := l12Open_ev s hs
theorem read_all (s : ByteArray) (hs : s.size ≤ 1048575) : ∃ ends : List Int, Ev (fun k => impl_readRecords.f k s) (allOf s, ends) ∧ ends.length = (allOf s).length + 1 ∧ rd ends ((allOf s).length : Int) = (endOf s : Int) ∧
    ∀ d p : ByteArray, s = d ++ p → ((d.size : Int) ∈ ends ↔ endOf d = d.size) := by
  refine ⟨0 :: endsOf 0 (rdAll 40 0 s), readRecords_ev s hs, ?_, ?_, ?_⟩
  · unfold allOf; rw [List.length_cons, ends_length, List.length_map]
  · have := ends_last 0 (rdAll 40 0 s)
    unfold allOf endOf
    rw [List.length_map]
    simpa using this
  · rintro d p rfl
    have := ends_mem 40 0 0 d p
    rw [Nat.zero_add] at this
    exact this
def recov (s : ByteArray) : ByteArray × ByteArray × Int × Int × Bool :=
  if s.size > 30000 then ((⟨#[]⟩ : ByteArray), (⟨#[]⟩ : ByteArray), 0, 0, false) else (s.extract 0 (endOf s), (⟨#[]⟩ : ByteArray), ((allOf s).length : Int), (endOf s : Int), true)
theorem spec_RecoverLog_ev (s : ByteArray) : Ev (fun k => spec_RecoverLog.f k s) (recov s) := by
  have hle := endOf_le s
  unfold spec_RecoverLog.f recov
  by_cases h : s.size > 30000
  · rw [if_pos h]; exact ev_pos (by omega) (ev_eq rfl)
  · rw [if_neg h]
    exact ev_neg (by omega) (Ev.bind (open_all s (by omega)) (ev_pos (by omega) (ev_pos (by omega) (ev_eq (by rw [Int.toNat_natCast])))))
theorem impl_RecoverLog_ev (s : ByteArray) : Ev (fun k => impl_RecoverLog.f k s) (recov s) := by
  have hle := endOf_le s
  unfold impl_RecoverLog.f recov
  by_cases h : s.size > 30000
  · rw [if_pos h]; exact ev_pos (by omega) (ev_eq rfl)
  · rw [if_neg h]
    obtain ⟨ends, h1, h2, h3, _⟩ := read_all s (by omega)
    refine ev_neg (by omega) (Ev.bind h1 ?_)
    simp only [h3]
    exact ev_pos (by omega) (ev_pos (by omega) (ev_pos (by omega) (ev_pos (by omega) (ev_eq (by rw [Int.toNat_natCast])))))
/-- A log is valid. -/
def okLog (d p : ByteArray) (n : Int) : Bool := decide (d.size + p.size ≤ 30000) && (decide (endOf (d ++ p) = d.size + p.size) && (decide (endOf d = d.size) && decide (((allOf (d ++ p)).length : Int) = n)))
/-- A log's records, and whether it is valid. -/
def recsOf (d p : ByteArray) (n : Int) : List S27 × Bool := if okLog d p n = true then (allOf (d ++ p), true) else (([] : List S27), false)
theorem recsOf_ok {d p : ByteArray} {n : Int} (h : okLog d p n = true) : recsOf d p n = (allOf (d ++ p), true) := if_pos h
theorem recsOf_no {d p : ByteArray} {n : Int} (h : okLog d p n = false) : recsOf d p n = (([] : List S27), false) := if_neg (by rw [h]; simp)
theorem recsOf_2 (d p : ByteArray) (n : Int) : (recsOf d p n).2 = okLog d p n := by
  unfold recsOf; cases okLog d p n <;> rfl
theorem eqLog_self (d p : ByteArray) (n : Int) : laws_eqLog.f d p n d p n = some true := by
  unfold laws_eqLog.f; rw [if_pos rfl, if_pos rfl, if_pos rfl]
end Go.Proofs.YtgcabagolfchhaaDoor.Pl
