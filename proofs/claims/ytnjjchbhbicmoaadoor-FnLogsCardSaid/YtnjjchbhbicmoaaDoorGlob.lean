import Derived.Test.YtnjjchbhbicmoaaDoorProg
import Derived.Lib.SmallJoins
import Derived.Lib.ItoaNum
import Derived.Lib.LaidTab
import Derived.Lib.AppendIntMem
import Derived.Below
import Derived.Deep.Draws
import Derived.KernelRfl
import Derived.Test.YtnjjchbhbicmoaaDoorK
namespace Go.Proofs.YtnjjchbhbicmoaaDoor.X
open Go.RowKit Go.Proofs.YtnjjchbhbicmoaaDoorW.PrintWords
theorem cell_lt {w : World} {g i : Nat} {v : Value} (h : w.cell? ⟨g, i, none⟩ = some v) : g < w.heap.size := by
  rcases Nat.lt_or_ge g w.heap.size with h' | h'
  · exact h'
  · simp [World.cell?, Array.getElem?_eq_none h'] at h
/-- What is known of the package variables that the walks read. -/
structure GL (w : World) : Prop where
  maxlen : ∃ m, w.cell? ⟨0, 0, none⟩ = some (.int .i64 m)
  pow10 : Lib.TabIs Tryd.prog w "internal/strconv.uint64pow10" .u64 Lib.pow10Tab
theorem GL.below {w w' : World} (h : GL w) (hb : Below w.heap.size w w') : GL w' :=
  ⟨h.maxlen.elim fun m hm => ⟨m, (hb.cell (p := ⟨0, 0, none⟩) (cell_lt hm)).trans hm⟩, Go.Joins.tab_stays (g := 1) (by kernel_rfl) h.pow10 hb (Nat.le_refl _)⟩
theorem GL.drawn {w w' : World} (h : GL w) (hd : Drawn0 w w') : GL w' := h.below hd.below
end Go.Proofs.YtnjjchbhbicmoaaDoor.X
