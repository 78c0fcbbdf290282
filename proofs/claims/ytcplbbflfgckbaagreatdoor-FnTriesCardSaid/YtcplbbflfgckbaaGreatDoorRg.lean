/- Short words for the walks' steps over the words of the seat: each takes what is alike from step to step by its own tactics. No conditions. -/
import Derived.Test.YtcplbbflfgckbaaGreatDoorK
import Derived.Tactics
import Derived.KernelRfl
set_option linter.unusedVariables false
set_option linter.unusedSimpArgs false
namespace Go.Proofs.YtcplbbflfgckbaaGreatDoor.X
open Go.RowKit Go.Proofs.YtcplbbflfgckbaaGreatDoorW.PrintWords Go.Proofs.YtcplbbflfgckbaaGreatDoorW.PrintLast Go.Proofs.YtcplbbflfgckbaaGreatDoorW.PrintMore
/-- The row of n bits whose number is m. -/
def ob (n m : Nat) : Array Bool := ((List.range n).map m.testBit).toArray
theorem bs {α β : Type} {x : Option α} {f : α → Option β} {r : β} (h : x.bind f = some r) : ∃ a, Aside0 (x = some a) ∧ f a = some r :=
  let ⟨a, h1, h2⟩ := Option.bind_eq_some_iff.mp h; ⟨a, ⟨h1⟩, h2⟩
theorem am {p : Prop} (h : p) : Aside0 p := ⟨h⟩
/-- w1 is w with blocks and draws more. -/
class Gr (w w1 : World) : Prop where
  out : Below w.heap.size w w1
instance {w : World} : Gr w w := ⟨Below.refl _ _⟩
instance {w w1 : World} [h : Gr w w1] (o : Obj) : Gr w (w1.alloc o) := ⟨below_alloc h.out o⟩
instance {w w1 : World} [h : Gr w w1] (n : Nat) : Gr w (w1.drewN n) := ⟨pw_below_drewN h.out n⟩
instance {w w1 : World} [h : Gr w w1] : Gr w w1.drew := ⟨below_drew1 h.out⟩
theorem ub {w w1 w2 : World} [h : Gr w w1] {g : Nat} {o : Obj} (k : Aside0 (w.heap[g]? = some o)) (hb : Below w1.heap.size w1 w2) : Aside0 (w2.heap[g]? = some o) := ⟨blk_below (blk_below k.out h.out) hb⟩
theorem uB {w0 w w1 w2 : World} [h : Gr w w1] (k : Aside0 (Below w0.heap.size w0 w)) (hb : Below w1.heap.size w1 w2) : Aside0 (Below w0.heap.size w0 w2) := ⟨below_step (below_step k.out h.out) hb⟩
theorem uR {α : Type} {d : Kd α} {e base : Nat} {ok : Nat → Prop} {v : Value} {xs : List α} {w w1 w2 : World} [h : Gr w w1] (k : Aside0 (d.R e w base ok v xs)) (hb : Below w1.heap.size w1 w2) : Aside0 (d.R e w2 base ok v xs) := ⟨Kd.R_below (Kd.R_below k.out h.out) hb⟩
theorem uL {α : Type} {d : Kd α} {e : Nat} {ok : Nat → Prop} {v : Value} {xs : List α} {w0 w w1 w2 : World} [h : Gr w w1] (ho : d.R e w2 w1.heap.size ok v xs) (k : Aside0 (Below w0.heap.size w0 w)) : Aside0 (d.R e w2 w0.heap.size ok v xs) := ⟨Kd.R_lower ho (below_size (below_step k.out h.out))⟩
theorem uG {w0 w w1 : World} [h : Gr w w1] {g : Nat} (hg : g = w1.heap.size) (k : Aside0 (Below w0.heap.size w0 w)) : Aside0 (w0.heap.size ≤ g) := ⟨by rw [hg]; exact below_size (below_step k.out h.out)⟩
theorem uN {w w1 : World} [h : Gr w w1] {g b : Nat} {o : Obj} (hg : g = w1.heap.size) (k : Aside0 (w.heap[b]? = some o)) : Aside0 (b ≠ g) := ⟨by rw [hg]; exact Nat.ne_of_lt (blk_lt (blk_below k.out h.out))⟩
theorem uM {w w1 : World} [h : Gr w w1] {g b : Nat} {o : Obj} (hg : g = w1.heap.size) (k : Aside0 (w.heap[b]? = some o)) : Aside0 (g ≠ b) := ⟨Ne.symm (uN hg k).out⟩
theorem bc {w : World} {g : Nat} {t : TypeId} {cs : Array Value} (v : Value) (k : Aside0 (w.heap[g]? = some (.cells cs t (0, 0)))) (i : Nat) (hv : cs[i]? = some v := by exact rfl) : w.cell? ⟨g, i, none⟩ = some v := (blk_cell k.out i).trans hv
/-! Facts as they now stand, behind stores into new blocks: found by what is known of the blocks. -/
section
variable {α : Type} {d : Kd α} {e base : Nat} {ok : Nat → Prop} {v : Value} {xs : List α} {w0 w w1 w2 : World} {g g' n : Nat} {o o' : Obj} {row : Option Nat}
theorem rT (h : d.R e w base ok v xs) {t i : Nat} {cs : Array Value} (hb : w.heap[g]? = some (.cells cs t (0, 0))) (ht : ∀ q, q ∈ e :: d.E → q ≠ t) (u : Value) : d.R e (w.setCell ⟨g, i, none⟩ u) base ok v xs := Kd.R_mono (Kd.R_far (Kd.R_types h hb ht) (fun _ hk => hk.2) u) (fun _ hk => hk.1)
theorem aU {p : Prop} (h : p := by repeat' (first | (with_reducible exact Aside0.out (by assumption)) | (with_reducible first | apply Kd.R_alloc | apply Kd.R_drewN | apply Kd.R_drew | refine blk_drewN ?_ _ | refine blk_drew ?_ | refine blk_alloc ?_ _) | (with_reducible refine blk_far ?_ (Aside0.out (by assumption)) _) | (with_reducible refine blk_put (cs := ?_) ?_ _ _ ?_) | (with_reducible refine rT (t := ?_) (cs := ?_) ?_ ?_ ?_ _) | decide | rfl | exact Kd.R_mono (Aside0.out (by assumption)) (fun _ _ => trivial))) : p := h
theorem aL {p : Prop} (h : p := by repeat (first | (with_reducible first | exact HB.out | apply below_alloc | apply pw_below_drewN | apply below_drew1 | refine below_set ?_ (Aside0.out (by assumption))) | exact HB.out)) : p := h
theorem uX (_k : Aside0 (d.R e w base ok v xs)) (hb : Below w1.heap.size w1 w2) (h : d.R e w1 base ok v xs := by repeat' (first | (with_reducible exact Aside0.out (by assumption)) | (with_reducible first | apply Kd.R_alloc | apply Kd.R_drewN | apply Kd.R_drew | refine blk_drewN ?_ _ | refine blk_drew ?_ | refine blk_alloc ?_ _) | (with_reducible refine blk_far ?_ (Aside0.out (by assumption)) _) | (with_reducible refine blk_put (cs := ?_) ?_ _ _ ?_) | (with_reducible refine rT (t := ?_) (cs := ?_) ?_ ?_ ?_ _) | decide | rfl | exact Kd.R_mono (Aside0.out (by assumption)) (fun _ _ => trivial))) : Aside0 (d.R e w2 base ok v xs) := ⟨Kd.R_below h hb⟩
theorem uZ (_k : Aside0 (w.heap[g]? = some o)) (hb : Below w1.heap.size w1 w2) (h : w1.heap[g]? = some o := by repeat' (first | (with_reducible exact Aside0.out (by assumption)) | (with_reducible first | apply Kd.R_alloc | apply Kd.R_drewN | apply Kd.R_drew | refine blk_drewN ?_ _ | refine blk_drew ?_ | refine blk_alloc ?_ _) | (with_reducible refine blk_far ?_ (Aside0.out (by assumption)) _) | (with_reducible refine blk_put (cs := ?_) ?_ _ _ ?_) | (with_reducible refine rT (t := ?_) (cs := ?_) ?_ ?_ ?_ _) | decide | rfl | exact Kd.R_mono (Aside0.out (by assumption)) (fun _ _ => trivial))) : Aside0 (w2.heap[g]? = some o) := ⟨blk_below h hb⟩
theorem uS (_k : Aside0 (Below w0.heap.size w0 w)) (hb : Below w1.heap.size w1 w2) (h : Below w0.heap.size w0 w1 := by repeat (first | (with_reducible first | exact HB.out | apply below_alloc | apply pw_below_drewN | apply below_drew1 | refine below_set ?_ (Aside0.out (by assumption))) | exact HB.out)) : Aside0 (Below w0.heap.size w0 w2) := ⟨below_step h hb⟩
theorem rX (_k : Aside0 (d.R e w base ok v xs)) (h : d.R e w1 base ok v xs := by repeat' (first | (with_reducible exact Aside0.out (by assumption)) | (with_reducible first | apply Kd.R_alloc | apply Kd.R_drewN | apply Kd.R_drew | refine blk_drewN ?_ _ | refine blk_drew ?_ | refine blk_alloc ?_ _) | (with_reducible refine blk_far ?_ (Aside0.out (by assumption)) _) | (with_reducible refine blk_put (cs := ?_) ?_ _ _ ?_) | (with_reducible refine rT (t := ?_) (cs := ?_) ?_ ?_ ?_ _) | decide | rfl | exact Kd.R_mono (Aside0.out (by assumption)) (fun _ _ => trivial))) : d.R e w1 base ok v xs := h
theorem rK (h : d.R e w base (fun k => ok k ∧ k ≠ g) v xs) (hk : KeepBut w w1 g none) : Aside0 (d.R e w1 base ok v xs) := ⟨Kd.R_mono (Kd.R_keep h hk (fun _ h => h.2)) (fun _ h => h.1)⟩
theorem bz {t : TypeId} {cs : Array Value} (u : Value) (k : Aside0 (w.heap[g]? = some (.cells cs t (0, 0)))) (hv : cs[0]? = some u := by exact rfl) : w.cell? ⟨g, 0, none⟩ = some u ∧ w.frozen? ⟨g, 0, none⟩ = false := ⟨(blk_cell k.out 0).trans hv, blk_frozen k.out 0⟩
theorem uH (hg : g = w1.heap.size) (_k : Aside0 (Below w0.heap.size w0 w)) (h : Below w0.heap.size w0 w1 := by repeat (first | (with_reducible first | exact HB.out | apply below_alloc | apply pw_below_drewN | apply below_drew1 | refine below_set ?_ (Aside0.out (by assumption))) | exact HB.out)) : Aside0 (w0.heap.size ≤ g) := ⟨hg ▸ below_size h⟩
theorem uA [Gr w w1] {b : Nat} (hg : g = w1.heap.size) (hb : Below w1.heap.size w1 w2) (k : Aside0 (w.heap[b]? = some o)) : Aside0 (b ≠ g) ∧ Aside0 (g ≠ b) ∧ Aside0 (w2.heap[b]? = some o) := ⟨uN hg k, uM hg k, ub k hb⟩
theorem nk {a b : Nat} (k : Aside0 (a ≠ b)) : a ≠ b ∧ b ≠ a := ⟨k.out, k.out.symm⟩
theorem bS (_k : Aside0 (Below w0.heap.size w0 w)) (h : Below w0.heap.size w0 w1 := by repeat (first | (with_reducible first | exact HB.out | apply below_alloc | apply pw_below_drewN | apply below_drew1 | refine below_set ?_ (Aside0.out (by assumption))) | exact HB.out)) : w0.heap.size ≤ w1.heap.size := below_size h
theorem uC {a : Addr} {u : Value} (k : Aside0 (Below w.heap.size w w1)) (h : w.cell? a = some u) : w1.cell? a = some u := (k.out.cell (World.block_lt_of_cell? w _ h)).trans h
theorem qR (_k : Aside0 (d.R e w base ok v xs)) (hq : w1 = w2) (h : d.R e w1 base ok v xs := by repeat' (first | (with_reducible exact Aside0.out (by assumption)) | (with_reducible first | apply Kd.R_alloc | apply Kd.R_drewN | apply Kd.R_drew | refine blk_drewN ?_ _ | refine blk_drew ?_ | refine blk_alloc ?_ _) | (with_reducible refine blk_far ?_ (Aside0.out (by assumption)) _) | (with_reducible refine blk_put (cs := ?_) ?_ _ _ ?_) | (with_reducible refine rT (t := ?_) (cs := ?_) ?_ ?_ ?_ _) | decide | rfl | exact Kd.R_mono (Aside0.out (by assumption)) (fun _ _ => trivial))) : Aside0 (d.R e w2 base ok v xs) := ⟨hq ▸ h⟩
theorem qB (_k : Aside0 (w.heap[g]? = some o)) (hq : w1 = w2) (h : w1.heap[g]? = some o := by repeat' (first | (with_reducible exact Aside0.out (by assumption)) | (with_reducible first | apply Kd.R_alloc | apply Kd.R_drewN | apply Kd.R_drew | refine blk_drewN ?_ _ | refine blk_drew ?_ | refine blk_alloc ?_ _) | (with_reducible refine blk_far ?_ (Aside0.out (by assumption)) _) | (with_reducible refine blk_put (cs := ?_) ?_ _ _ ?_) | (with_reducible refine rT (t := ?_) (cs := ?_) ?_ ?_ ?_ _) | decide | rfl | exact Kd.R_mono (Aside0.out (by assumption)) (fun _ _ => trivial))) : Aside0 (w2.heap[g]? = some o) := ⟨hq ▸ h⟩
theorem qL (_k : Aside0 (Below n w0 w)) (hq : w1 = w2) (h : Below n w0 w1 := by repeat (first | (with_reducible first | exact HB.out | apply below_alloc | apply pw_below_drewN | apply below_drew1 | refine below_set ?_ (Aside0.out (by assumption))) | exact HB.out)) : Aside0 (Below n w0 w2) := ⟨hq ▸ h⟩
theorem kB (hk : KeepBut w1 w2 g row) (_k : Aside0 (w.heap[g']? = some o)) (hg : Aside0 (g' ≠ g)) (hr : some g' ≠ row := by simp) (h : w1.heap[g']? = some o := by repeat' (first | (with_reducible exact Aside0.out (by assumption)) | (with_reducible first | apply Kd.R_alloc | apply Kd.R_drewN | apply Kd.R_drew | refine blk_drewN ?_ _ | refine blk_drew ?_ | refine blk_alloc ?_ _) | (with_reducible refine blk_far ?_ (Aside0.out (by assumption)) _) | (with_reducible refine blk_put (cs := ?_) ?_ _ _ ?_) | (with_reducible refine rT (t := ?_) (cs := ?_) ?_ ?_ ?_ _) | decide | rfl | exact Kd.R_mono (Aside0.out (by assumption)) (fun _ _ => trivial))) : Aside0 (w2.heap[g']? = some o) := ⟨KeepBut.blk hk h hg.out hr⟩
theorem rd2 {A : Option Addr} {m c : Nat} (_k : Aside0 (d.R e w base ok (.slice A m c) xs)) (h : d.R e w1 base ok (.slice A m c) xs := by repeat' (first | (with_reducible exact Aside0.out (by assumption)) | (with_reducible first | apply Kd.R_alloc | apply Kd.R_drewN | apply Kd.R_drew | refine blk_drewN ?_ _ | refine blk_drew ?_ | refine blk_alloc ?_ _) | (with_reducible refine blk_far ?_ (Aside0.out (by assumption)) _) | (with_reducible refine blk_put (cs := ?_) ?_ _ _ ?_) | (with_reducible refine rT (t := ?_) (cs := ?_) ?_ ?_ ?_ _) | decide | rfl | exact Kd.R_mono (Aside0.out (by assumption)) (fun _ _ => trivial))) : d.C w1 A xs.length xs := (Kd.R_reads' h).2.2
theorem rl {A : Option Addr} {m c : Nat} (k : Aside0 (d.R e w base ok (.slice A m c) xs)) : xs.length ≤ c := by
  obtain ⟨h1, h2, _⟩ := Kd.R_reads' k.out
  omega
end
section
variable {P : Program} {ops : Array Oper} {Q : Exit → Act → World → Prop} {md : Region.Mode} {S : World → Prop} {ds : List Nat} {T : Bool × List (List Nat × List Nat)} {B : List Nat}
/-- An operation that yields in every world. -/
theorem pu (i : Nat) (t : Tmp) {fuel n m : Nat} {a a' : Act} {w : World} {oi : Oper} {v : Value} (h : wpAnyLast P md ops Q S ds fuel (ob n (m ||| 2 ^ i)) a' w)
    (hi : ops[i]? = some oi := by exact rfl) (hN : oi.dst = some t := by exact rfl) (hT : Aside0 (rtab md ops = T) := by exact HT_) (hc : anyT T (ob n m).toList (ob n (m ||| 2 ^ i)).toList i = true := by kernel_rfl)
    (hQ : ∀ c a w, Q (.panic c) (a.put oi.dst v) w → Q (.panic c) a w := by exact fun _ _ _ h => h)
    (hy : Yields P ops oi v a := by first | exact Or.inl ⟨by rfl, by intro w'; go_simp; with_reducible rfl⟩ | exact Or.inr ⟨by rfl, rfl⟩)
    (ha : a.put (some t) v = a' := by first | (simp only [Act.put, List.setIfInBounds_toArray, List.set_cons_zero, List.set_cons_succ, i64_w, i32_w]; rfl) | rfl) : wpAnyLast P md ops Q S ds (fuel + 1) (ob n m) a w :=
  pure_ _ hi hN (any_of hT.out hc) hQ hy ha h
/-- An operation that yields in the worlds that the region passes through. -/
theorem tk (i : Nat) (t : Tmp) {fuel n m : Nat} {a a' : Act} {w : World} {oi : Oper} {v : Value} (h : wpAnyLast P md ops Q S ds fuel (ob n (m ||| 2 ^ i)) a' w)
    (hi : ops[i]? = some oi := by exact rfl) (hN : oi.dst = some t := by exact rfl) (hT : Aside0 (rtab md ops = T) := by exact HT_) (hW : Aside0 (waitsOk T.2 B = true) := by exact HW_) (hc : takeW T B ds (ob n m).toList (ob n (m ||| 2 ^ i)).toList i = true := by kernel_rfl)
    (hQ : ∀ c a w, Q (.panic c) (a.put oi.dst v) w → Q (.panic c) a w := by exact fun _ _ _ h => h)
    (hy : YieldsIf P ops S oi v a := by first | exact Or.inl ⟨by rfl, by (intro w'; try simp only [and_imp]); intros; go_simp; with_reducible rfl⟩ | exact Or.inr ⟨by rfl, rfl⟩) (hS : S w := by exact hHeld)
    (ha : a.put (some t) v = a' := by first | (simp only [Act.put, List.setIfInBounds_toArray, List.set_cons_zero, List.set_cons_succ, i64_w, i32_w]; rfl) | rfl) : wpAnyLast P md ops Q S ds (fuel + 1) (ob n m) a w :=
  take_ _ hi hN (take_ofW hT.out hW.out hc) hQ hy hS ha h
theorem nm (t : Tmp) {fuel : Nat} {l : Array Bool} {b a' : Act} {w : World} {v : Value} (h : wpAnyLast P md ops Q S ds fuel l a' w)
    (ha : b.put (some t) v = a' := by first | (simp only [Act.put, List.setIfInBounds_toArray, List.set_cons_zero, List.set_cons_succ, i64_w, i32_w]; rfl) | rfl) : wpAnyLast P md ops Q S ds fuel l (b.put (some t) v) w := norm_ ha h
theorem nn {fuel : Nat} {l : Array Bool} {b a' : Act} {w : World} {v : Value} (h : wpAnyLast P md ops Q S ds fuel l a' w)
    (ha : b.put none v = a' := by first | (simp only [Act.put, List.setIfInBounds_toArray, List.set_cons_zero, List.set_cons_succ, i64_w, i32_w]; rfl) | rfl) : wpAnyLast P md ops Q S ds fuel l (b.put none v) w := norm_ ha h
theorem dn {l : Array Bool} {a : Act} {w : World} {n : Nat} (h : Q .normal a w) (hT : Aside0 (rtab md ops = T) := by exact HT_) (hc : (readyT T.2 l.toList == []) = true := by kernel_rfl) : wpAnyLast P md ops Q S ds n l a w :=
  done_ (done_of hT.out hc) h
/-- The operation is a call of f, its value goes to t. -/
theorem gd (t : Tmp) (f : FuncId) {o : Oper} {rest : List Oper} {a : Act} {w : World} {as : Array Operand} {ts : Array TypeId} (h : wpList P ops Q (o :: rest) a w) (_ho : o.op = .call { callee := .value (.func f), args := as, argTypes := ts } := by with_reducible exact rfl) (_hd : o.dst = some t := by exact rfl) : wpList P ops Q (o :: rest) a w := h
theorem ge (f : FuncId) {o : Oper} {rest : List Oper} {a : Act} {w : World} {as : Array Operand} {ts : Array TypeId} (h : wpList P ops Q (o :: rest) a w) (_ho : o.op = .call { callee := .value (.func f), args := as, argTypes := ts } := by with_reducible exact rfl) (_hd : o.dst = none := by exact rfl) : wpList P ops Q (o :: rest) a w := h
theorem gt (t : Tmp) {o : Oper} {rest : List Oper} {a : Act} {w : World} (h : wpList P ops Q (o :: rest) a w) (_hd : o.dst = some t := by exact rfl) : wpList P ops Q (o :: rest) a w := h
/-- A variable in memory comes up. -/
theorem bx (N : Tmp) (cs : Array Value) (t : TypeId) {o : Oper} {rest : List Oper} {a : Act} {W : World}
    (h : ∀ g, g = W.heap.size → ∀ w1, w1.heap[g]? = some (.cells cs t (0, 0)) → Below W.heap.size W w1 → wpList P ops Q rest (a.put o.dst (.pointer (some ⟨g, 0, none⟩))) w1)
    (hgd : o.guard = none := by rfl) (hd : o.dst = some N := by rfl) (hrun : (execOp a.eval o).run P W = .ok (.value (.pointer (some ⟨W.heap.size, 0, none⟩))) (W.alloc (.cells cs t (0, 0))) := by first | (go_simp; done) | (go_simp; rfl)) : wpList P ops Q (o :: rest) a W :=
  box_event hgd hd hrun h
/-- A call of a Go function, by its contract. -/
theorem gc (t : Tmp) {rest : List Oper} {oi : Oper} {a : Act} {w : World} {f : FuncId} {fn : Func} {as : Array Operand} {ts : Array TypeId} (hf : P.funcs[f]? = some fn) (args : Array Value) {Q1 : Ending → World → Prop}
    (hc : Calls P f args w Q1) (h : ∀ e w', Q1 e w' → ∃ v, e = .returned v ∧ wpList P ops Q rest (a.put (some t) v) w')
    (hop : oi.op = .call { callee := .value (.func f), args := as, argTypes := ts } := by with_reducible exact rfl) (hd : oi.dst = some t := by exact rfl) (hg : oi.guard = none := by exact rfl)
    (hname : (fn.name == "runtime.NumGoroutine") = false := by kernel_rfl) (hb : fn.body.isSome = true := by exact rfl)
    (hargs : as.map a.eval = args := by ((try simp only [List.map_toArray, List.map_cons, List.map_nil]); first | done | rfl | (simp only [List.length_drop, List.length_take]; rfl))) : wpList P ops Q (oi :: rest) a w :=
  goesL_ (some t) hd hg hf hname hb args hop hargs (hc.mono h)
end
end Go.Proofs.YtcplbbflfgckbaaGreatDoor.X

