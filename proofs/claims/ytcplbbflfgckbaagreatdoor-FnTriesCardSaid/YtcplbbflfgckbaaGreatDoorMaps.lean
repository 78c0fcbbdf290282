/- A map of strings to ints that the call itself has made, told by a list of pairs, the last stored first. No program in it. -/
import Derived.Test.YtcplbbflfgckbaaGreatDoorBase
import Derived.Maps.Own
import Derived.Maps.OwnOps
import Derived.Maps.Views
import Derived.StringKeys
set_option linter.unusedVariables false
set_option linter.unusedSimpArgs false
namespace Go.Proofs.YtcplbbflfgckbaaGreatDoor.G
open Go.RowKit Go.Maps Go.Proofs.YtcplbbflfgckbaaGreatDoorW.PrintWords

def mapD (c : List (ByteArray × Int)) : DataW Unit := c.foldr (fun p D => D.put (.string p.1.data.toList) (.lit (.int .i64 p.2))) (.map [])
def mapGet : List (ByteArray × Int) → ByteArray → Int
  | [], _ => 0
  | p :: c, x => if p.1.data.toList = x.data.toList then p.2 else mapGet c x
theorem mapD_isMap (c : List (ByteArray × Int)) : IsMap (mapD c) := by
  induction c with
  | nil => exact ⟨[], rfl⟩
  | cons p c ih => exact IsMap.put ih _ _
theorem mapD_get (c : List (ByteArray × Int)) (x : ByteArray) : (mapD c).atKey (.string x.data.toList) (.lit (.int .i64 0)) = .lit (.int .i64 (mapGet c x)) := by
  induction c with
  | nil => rfl
  | cons p c ih =>
    unfold mapGet
    by_cases h : p.1.data.toList = x.data.toList
    · rw [if_pos h, ← h]; exact atKey_put_same (mapD_isMap c) (by constructor) _ _
    · rw [if_neg h, ← ih]; exact atKey_put_other (fun e => h (by injection e with e; exact e.symm)) _ _
section
variable {P : Program} {K E : TypeId} {w w1 : World} {b : Nat} {c : List (ByteArray × Int)}
/-- Block b of w is a map that holds just what c says. -/
def MapIs (P : Program) (K E : TypeId) (w : World) (b : Nat) (c : List (ByteArray × Int)) : Prop := w.ownsMap (H := Unit) P K (plainElem P E) b c.length (mapD c)
theorem MapIs.lt (h : MapIs P K E w b c) : b < w.heap.size := World.ownsMap.lt h
theorem MapIs.below (h : MapIs P K E w b c) (hb : Below w.heap.size w w1) : MapIs P K E w1 b c := by
  have hl := h.lt
  obtain ⟨es, clock, hk, F, hs, hD⟩ := h
  exact ⟨es, clock, (hb.block b hl).trans hk, F, hs, hD⟩
theorem MapIs.grown {row : Option Nat} (h : MapIs P K E w b c) (hg : w.grownBy w1 row) (hne : some b ≠ row) : MapIs P K E w1 b c := World.ownsMap.kept h hg hne
theorem MapIs.alloc (h : MapIs P K E w b c) (o : Obj) : MapIs P K E (w.alloc o) b c := World.ownsMap.alloc h o
theorem MapIs.drew (h : MapIs P K E w b c) : MapIs P K E w.drew b c := h
theorem MapIs.drewN (h : MapIs P K E w b c) (m : Nat) : MapIs P K E (w.drewN m) b c := h
theorem MapIs.ne_blk (h : MapIs P K E w b c) {g : Nat} {cs : Array Value} {t : TypeId} {f : Nat × Nat} (hb : w.heap[g]? = some (.cells cs t f)) : b ≠ g := by
  rintro rfl
  obtain ⟨es, clock, hk, _⟩ := h
  rw [hb] at hk; cases hk
theorem MapIs.ne_row (h : MapIs P K E w b c) {α : Type} {d : Kd α} {e base : Nat} {ok : Nat → Prop} {v : Value} {xs : List α} (ho : d.R e w base ok v xs) : some b ≠ v.ownBlock := by
  obtain ⟨_, inner, ho, _⟩ := ho
  rcases ho.2 with ⟨rfl, _⟩ | ⟨g, cap, cur, rfl, _, hg, _⟩
  · simp [Value.ownBlock]
  · intro e1
    have : b = g := by simpa [Value.ownBlock] using e1
    exact h.ne_blk hg this
theorem MapIs.set (h : MapIs P K E w b c) {g : Nat} (hne : b ≠ g) (i : Nat) (u : Value) : MapIs P K E (w.setCell ⟨g, i, none⟩ u) b c := by
  obtain ⟨es, clock, hk, F, hs, hD⟩ := h
  exact ⟨es, clock, (Below.heap_setCell w ⟨g, i, none⟩ u b hne).trans hk, F, hs, hD⟩
variable {ops : Array Oper} {rest : List Oper} {o : Oper} {a : Act} {Q : Exit → Act → World → Prop} {W : World}
theorem MapIs.run_get (h : MapIs P K E w b c) {t : TypeId} {s : ByteArray} (ht : P.underlying t = some (.map K E)) (hK : P.underlying K = some .string) (hE : P.underlying E = some (.int .i64)) (hz : (zeroValue E).run P w = .ok (.int .i64 0) w) (hs : s.size ≤ 9223372036854775807) :
    (Instr.lookup t (.map (some b)) (.string s) false).run P w = .ok (.int .i64 (mapGet c s)) w := by
  obtain ⟨q, hrun, hat, _⟩ := World.ownsMap.lookup_int h (string_keyed hK) ht hE hz (Go.WideMaps.keyOf_string_mk hK (s := s) (by unfold maxLen; omega))
  rw [mapD_get] at hat
  injection hat with hat
  injection hat with _ hat
  rw [hrun, hat]
theorem gate_mput {t : TypeId} {m x v : Operand} (_ho : o.op = .mapUpdate t m x v) (h : wpList P ops Q (o :: rest) a W) : wpList P ops Q (o :: rest) a W := h
theorem wf_i64 {i : Int} (h1 : -9223372036854775808 ≤ i) (h2 : i ≤ 9223372036854775807) : (Lit.int .i64 i).wf = true := by
  have e1 : (IntKind.i64).min = -9223372036854775808 := by decide
  have e2 : (IntKind.i64).max = 9223372036854775807 := by decide
  simp only [Lit.wf, e1, e2, decide_eq_true h1, decide_eq_true h2, Bool.and_self]
theorem mnew_event (hgd : o.guard = none) {N : Tmp} (_hd : o.dst = some N) (K E : TypeId)
    (hrun : (execOp a.eval o).run P W = .ok (.value (.map (some W.heap.size))) (W.alloc (.map #[] 0)))
    (h : ∀ g, g = W.heap.size → ∀ w1, MapIs P K E w1 g [] → Below W.heap.size W w1 → wpList P ops Q rest (a.put o.dst (.map (some g))) w1) : wpList P ops Q (o :: rest) a W :=
  Kd.event_run hgd hrun (h _ rfl _ (World.ownsMap_made W P K _) ((Below.refl _ W).alloc (Nat.le_refl _) _))
theorem mput_event (hgd : o.guard = none) {t : TypeId} {m x v : Operand} (ho : o.op = .mapUpdate t m x v) (hd : o.dst = none) {s : ByteArray} {i : Int}
    (hm : a.eval m = .map (some b)) (hx : a.eval x = .string s) (hv : a.eval v = .int .i64 i) (ht : P.underlying t = some (.map K E)) (hK : P.underlying K = some .string) (hE : P.underlying E = some (.int .i64))
    (hw : (Lit.int .i64 i).wf = true) (hs : s.size ≤ maxLen) (hl : c.length < maxLen) (h : MapIs P K E W b c)
    (hk : ∀ w1, MapIs P K E w1 b ((s, i) :: c) → W.grownBy w1 (some b) → wpList P ops Q rest a w1) : wpList P ops Q (o :: rest) a W := by
  refine wpList_mapUpdate_own W hgd m x v t ho K E (string_keyed hK) ht (plainElem P E) b c.length (mapD c) hm h hl _ _ _ hx hv (Go.WideMaps.keyOf_string_mk hK hs) _ _ (plainElem_int hE hw) ?_
  intro w1 h1 h2
  rw [hd]
  exact hk w1 h1 h2
end
end Go.Proofs.YtcplbbflfgckbaaGreatDoor.G

