/- Short words for the walks' steps: a value of some cells is stored into a block that is known. No conditions. -/
import Derived.Test.YtnjjchbhbicmoaaDoorRg
import Derived.Deep.MidRow
set_option linter.unusedVariables false
set_option linter.unusedSimpArgs false
namespace Go.Proofs.YtnjjchbhbicmoaaDoor.X
open Go.RowKit Go.Proofs.YtnjjchbhbicmoaaDoorW.PrintWords Go.Proofs.YtnjjchbhbicmoaaDoorW.PrintLast Go.Proofs.YtnjjchbhbicmoaaDoorW.PrintMore
section
variable {P : Program} {ops : Array Oper} {Q : Exit → Act → World → Prop}
/-- The operation stores a value of some cells into a block that is known. -/
theorem stg {t : TypeId} {x y : Operand} {oi : Oper} {rest : List Oper} {a : Act} {w : World} (h : wpList P ops Q (oi :: rest) a w) (_ho : oi.op = .store t x y := by with_reducible exact rfl) : wpList P ops Q (oi :: rest) a w := h
theorem stw {t : TypeId} {x y : Operand} {oi : Oper} {rest : List Oper} {a : Act} {w : World} {g : Nat} {ow cs : Array Value} {ty : TypeId} (h : wpList P ops Q rest a (w.setCells g 0 cs.toList))
    (hop : oi.op = .store t x y := by with_reducible exact rfl) (hd : oi.dst = none := by with_reducible exact rfl) (hg : oi.guard = none := by with_reducible exact rfl)
    (hx : a.eval x = .pointer (some ⟨g, 0, none⟩) := by exact rfl) (hy : a.eval y = .agg cs := by exact rfl)
    {w0 : World} (k0 : Aside0 (w0.heap[g]? = some (.cells ow ty (0, 0))) := by assumption) (hk : w.heap[g]? = w0.heap[g]? := by (with_reducible repeat (first | exact rfl | refine (Below.heap_setCell _ _ _ _ (Aside0.out (by assumption))).trans ?_)))
    (hs : ow.size = cs.size := by exact rfl)
    (hi : (P.info? t).map (·.size) = some cs.size := by (simp only [List.size_toArray, List.length_cons, List.length_nil]; kernel_rfl)) (h1 : cs.toList.all (·.oneCell') = true := by exact rfl) : wpList P ops Q (oi :: rest) a w := by
  have k : Aside0 (w.heap[g]? = some (.cells ow ty (0, 0))) := ⟨hk.trans k0.out⟩
  refine wpList_store_mid hg t x y hop g 0 cs hx hy (fun j hj => ?_) hi (by rw [← Array.all_toList]; exact h1) (by rw [hd]; exact h)
  rw [Nat.zero_add]
  refine ⟨?_, blk_frozen k.out j⟩
  rw [blk_cell k.out j, Array.getElem?_eq_getElem (by omega)]; rfl
/-- The operation loads a value of some cells out of a block that is known. -/
theorem ldw (g : Nat) {t : TypeId} {x : Operand} {oi : Oper} {rest : List Oper} {a : Act} {w : World} {cs : Array Value} {ty : TypeId} {d : TypeDesc}
    (h : wpList P ops Q rest (a.put oi.dst (.agg cs)) w) (k : w.heap[g]? = some (.cells cs ty (0, 0)))
    (hop : oi.op = .load t x := by with_reducible exact rfl) (hg : oi.guard = none := by with_reducible exact rfl)
    (hx : a.eval x = .pointer (some ⟨g, 0, none⟩) := by exact rfl)
    (hu : P.underlying t = some d := by assumption) (hd : d.isRow = true := by exact rfl)
    (hi : (P.info? t).map (·.size) = some cs.toList.length := by (simp only [List.length_cons, List.length_nil]; kernel_rfl)) : wpList P ops Q (oi :: rest) a w := by
  refine wpList_load_mid hg t x hop g 0 hx cs.toList d (fun j v hv => ?_) hu hd hi (by simpa using h)
  rw [Nat.zero_add, blk_cell k j, ← hv, Array.getElem?_toList]
/-- It is a load from that block. -/
theorem ldg (g : Nat) {t : TypeId} {x : Operand} {oi : Oper} {rest : List Oper} {a : Act} {w : World} (h : wpList P ops Q (oi :: rest) a w) (_ho : oi.op = .load t x := by with_reducible exact rfl) (_hx : a.eval x = .pointer (some ⟨g, 0, none⟩) := by exact rfl) : wpList P ops Q (oi :: rest) a w := h
end
end Go.Proofs.YtnjjchbhbicmoaaDoor.X
