/- Plain: the laws' own helpers for books. -/
import Derived.Test.YtnjjchbhbicmoaaGreatDoorX1
import Derived.Test.YtnjjchbhbicmoaaGreatDoorX11
import Derived.Test.YtnjjchbhbicmoaaGreatDoorBooks
set_option linter.unusedVariables false
set_option linter.unusedSimpArgs false
namespace Go.Proofs.YtnjjchbhbicmoaaGreatDoor.Pl
open Go.RowKit Go.Proofs.YtnjjchbhbicmoaaGreatDoorW.PrintWords Go.Proofs.YtnjjchbhbicmoaaGreatDoorW.PrintLast Go.Proofs.YtnjjchbhbicmoaaGreatDoorW.PrintMore Go.Proofs.YtnjjchbhbicmoaaGreatDoor.X

theorem szBook_eq (s a : ByteArray) (c : Int) (hs : s.size ≤ 140737488351232) (ha : a.size ≤ 140737488351232) : laws_szBook.f s a c 1048576 = some (if s.size + a.size ≤ 1048576 then ((1048576 - (s.size + a.size) : Nat) : Int) else -1) := by
  unfold laws_szBook.f
  rw [w64 (x := 1048576 - (s.size : Int)) (by omega) (by omega), w64 (x := 1048576 - (s.size : Int) - (a.size : Int)) (by omega) (by omega)]
  by_cases h1 : s.size ≤ 1048576
  · rw [if_neg (by omega)]
    by_cases h2 : s.size + a.size ≤ 1048576
    · rw [if_neg (by omega), if_pos h2]; congr 1; omega
    · rw [if_pos (by omega), if_neg h2]
  · rw [if_pos (by omega), if_neg (by omega)]
theorem ev_sizeB {s a : ByteArray} {c : Int} (hs : s.size ≤ 140737488351232) (ha : a.size ≤ 140737488351232) {F : Nat → Int → Option Bool} (h : s.size + a.size ≤ 1048576 → Ev (fun k => F k ((1048576 - (s.size + a.size) : Nat) : Int)) true) : Ev (fun k => (laws_szBook.f s a c 1048576).bind fun t => if t < 0 then some true else F k t) true := by
  rw [szBook_eq s a c hs ha]
  by_cases hc : s.size + a.size ≤ 1048576
  · rw [if_pos hc]
    exact ev_some (f := fun k t => if t < 0 then some true else F k t) (ev_neg (by omega) (h hc))
  · rw [if_neg hc]
    exact ev_some (f := fun k t => if t < 0 then some true else F k t) (ev_pos (by decide) (ev_eq rfl))
end Go.Proofs.YtnjjchbhbicmoaaGreatDoor.Pl
