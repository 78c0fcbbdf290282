/- Short words for the walks' steps over the words of the seat: each takes what is alike from step to step by its own tactics. No conditions. -/
import Derived.Test.YtnjjchbhbicmoaaGreatDoorK
import Derived.Tactics
import Derived.KernelRfl
set_option linter.unusedVariables false
set_option linter.unusedSimpArgs false
namespace Go.Proofs.YtnjjchbhbicmoaaGreatDoor.X
open Go.RowKit Go.Proofs.YtnjjchbhbicmoaaGreatDoorW.PrintWords Go.Proofs.YtnjjchbhbicmoaaGreatDoorW.PrintLast Go.Proofs.YtnjjchbhbicmoaaGreatDoorW.PrintMore
/-- The row of n bits whose number is m. -/
def ob (n m : Nat) : Array Bool := ((List.range n).map m.testBit).toArray
theorem bs {α β : Type} {x : Option α} {f : α → Option β} {r : β} (h : x.bind f = some r) : ∃ a, Aside0 (x = some a) ∧ f a = some r :=
  let ⟨a, h1, h2⟩ := Option.bind_eq_some_iff.mp h; ⟨a, ⟨h1⟩, h2⟩
section
variable {P : Program} {ops : Array Oper} {Q : Exit → Act → World → Prop} {md : Region.Mode} {S : World → Prop} {ds : List Nat} {T : Bool × List (List Nat × List Nat)} {B : List Nat}
/-- An operation that yields in every world. -/
theorem pu (i : Nat) (t : Tmp) {fuel n m : Nat} {a a' : Act} {w : World} {oi : Oper} {v : Value} (h : wpAnyLast P md ops Q S ds fuel (ob n (m ||| 2 ^ i)) a' w)
    (hi : ops[i]? = some oi := by exact rfl) (hN : oi.dst = some t := by exact rfl) (hT : Aside0 (rtab md ops = T) := by exact HT_) (hc : anyT T (ob n m).toList (ob n (m ||| 2 ^ i)).toList i = true := by kernel_rfl)
    (hQ : ∀ c a w, Q (.panic c) (a.put oi.dst v) w → Q (.panic c) a w := by exact fun _ _ _ h => h)
    (hy : Yields P ops oi v a := by first | exact Or.inl ⟨by rfl, by intro w'; go_simp; with_reducible rfl⟩ | exact Or.inr ⟨by rfl, rfl⟩)
    (ha : a.put (some t) v = a' := by first | (simp only [Act.put, List.setIfInBounds_toArray, List.set_cons_zero, List.set_cons_succ, i64_w, i32_w]; rfl) | rfl) : wpAnyLast P md ops Q S ds (fuel + 1) (ob n m) a w :=
  pure_ _ hi hN (any_of hT.out hc) hQ hy ha h
/-- The same, where nothing takes what it yields. -/
theorem pv (i : Nat) {fuel n m : Nat} {a a' : Act} {w : World} {oi : Oper} {v : Value} (h : wpAnyLast P md ops Q S ds fuel (ob n (m ||| 2 ^ i)) a' w)
    (hi : ops[i]? = some oi := by exact rfl) (hN : oi.dst = none := by exact rfl) (hT : Aside0 (rtab md ops = T) := by exact HT_) (hc : anyT T (ob n m).toList (ob n (m ||| 2 ^ i)).toList i = true := by kernel_rfl)
    (hQ : ∀ c a w, Q (.panic c) (a.put oi.dst v) w → Q (.panic c) a w := by exact fun _ _ _ h => h)
    (hy : Yields P ops oi v a := by first | exact Or.inl ⟨by rfl, by intro w'; go_simp; with_reducible rfl⟩ | exact Or.inr ⟨by rfl, rfl⟩)
    (ha : a.put none v = a' := by first | (simp only [Act.put, List.setIfInBounds_toArray, List.set_cons_zero, List.set_cons_succ, i64_w, i32_w]; rfl) | rfl) : wpAnyLast P md ops Q S ds (fuel + 1) (ob n m) a w :=
  pure_ _ hi hN (any_of hT.out hc) hQ hy ha h
/-- An operation that yields in the worlds that the region passes through. -/
theorem tk (i : Nat) (t : Tmp) {fuel n m : Nat} {a a' : Act} {w : World} {oi : Oper} {v : Value} (h : wpAnyLast P md ops Q S ds fuel (ob n (m ||| 2 ^ i)) a' w)
    (hi : ops[i]? = some oi := by exact rfl) (hN : oi.dst = some t := by exact rfl) (hT : Aside0 (rtab md ops = T) := by exact HT_) (hW : Aside0 (waitsOk T.2 B = true) := by exact HW_) (hc : takeW T B ds (ob n m).toList (ob n (m ||| 2 ^ i)).toList i = true := by kernel_rfl)
    (hQ : ∀ c a w, Q (.panic c) (a.put oi.dst v) w → Q (.panic c) a w := by exact fun _ _ _ h => h)
    (hy : YieldsIf P ops S oi v a := by first | exact Or.inl ⟨by rfl, by (intro w'; try simp only [and_imp]); intros; go_simp; with_reducible rfl⟩ | exact Or.inr ⟨by rfl, rfl⟩) (hS : S w := by exact hHeld)
    (ha : a.put (some t) v = a' := by first | (simp only [Act.put, List.setIfInBounds_toArray, List.set_cons_zero, List.set_cons_succ, i64_w, i32_w]; rfl) | rfl) : wpAnyLast P md ops Q S ds (fuel + 1) (ob n m) a w :=
  take_ _ hi hN (take_ofW hT.out hW.out hc) hQ hy hS ha h
/-- The same, where nothing takes what it yields. -/
theorem tv (i : Nat) {fuel n m : Nat} {a a' : Act} {w : World} {oi : Oper} {v : Value} (h : wpAnyLast P md ops Q S ds fuel (ob n (m ||| 2 ^ i)) a' w)
    (hi : ops[i]? = some oi := by exact rfl) (hN : oi.dst = none := by exact rfl) (hT : Aside0 (rtab md ops = T) := by exact HT_) (hW : Aside0 (waitsOk T.2 B = true) := by exact HW_) (hc : takeW T B ds (ob n m).toList (ob n (m ||| 2 ^ i)).toList i = true := by kernel_rfl)
    (hQ : ∀ c a w, Q (.panic c) (a.put oi.dst v) w → Q (.panic c) a w := by exact fun _ _ _ h => h)
    (hy : YieldsIf P ops S oi v a := by first | exact Or.inl ⟨by rfl, by (intro w'; try simp only [and_imp]); intros; go_simp; with_reducible rfl⟩ | exact Or.inr ⟨by rfl, rfl⟩) (hS : S w := by exact hHeld)
    (ha : a.put none v = a' := by first | (simp only [Act.put, List.setIfInBounds_toArray, List.set_cons_zero, List.set_cons_succ, i64_w, i32_w]; rfl) | rfl) : wpAnyLast P md ops Q S ds (fuel + 1) (ob n m) a w :=
  take_ _ hi hN (take_ofW hT.out hW.out hc) hQ hy hS ha h
theorem nm (t : Tmp) {fuel : Nat} {l : Array Bool} {b a' : Act} {w : World} {v : Value} (h : wpAnyLast P md ops Q S ds fuel l a' w)
    (ha : b.put (some t) v = a' := by first | (simp only [Act.put, List.setIfInBounds_toArray, List.set_cons_zero, List.set_cons_succ, i64_w, i32_w]; rfl) | rfl) : wpAnyLast P md ops Q S ds fuel l (b.put (some t) v) w := norm_ ha h
theorem nn {fuel : Nat} {l : Array Bool} {b a' : Act} {w : World} {v : Value} (h : wpAnyLast P md ops Q S ds fuel l a' w)
    (ha : b.put none v = a' := by first | (simp only [Act.put, List.setIfInBounds_toArray, List.set_cons_zero, List.set_cons_succ, i64_w, i32_w]; rfl) | rfl) : wpAnyLast P md ops Q S ds fuel l (b.put none v) w := norm_ ha h
theorem dn {l : Array Bool} {a : Act} {w : World} {n : Nat} (h : Q .normal a w) (hT : Aside0 (rtab md ops = T) := by exact HT_) (hc : (readyT T.2 l.toList == []) = true := by kernel_rfl) : wpAnyLast P md ops Q S ds n l a w :=
  done_ (done_of hT.out hc) h
end
end Go.Proofs.YtnjjchbhbicmoaaGreatDoor.X
