/- What is read at a type is of a kind: the bridge from a row's reading of its arguments to the printed functions' kinds; and a frame for laws. No program in it. -/
import Derived.Test.YtcplbbflfgckbaaGreatDoorK
import Derived.ProofKit
import Derived.OpenShut
import Derived.ShutString
import Derived.ChangeOld
import Derived.Below
import Derived.SizedLaws
import Derived.Deep.Slices
import Derived.Lib.SmallJoins
set_option linter.unusedVariables false
set_option linter.unusedSimpArgs false
namespace Go.Proofs.YtcplbbflfgckbaaGreatDoor.G
open Go.ChangeShapes Go.WideShapes Go.ChangeAt Go.RowKit Go.Deep Go.Proofs.YtcplbbflfgckbaaGreatDoorW.PrintWords

/-- Whatever is read at type t, no part of it longer than the reach allows, is of kind d and satisfies ok. -/
def Opn (P : Program) (t : TypeId) {α : Type} (d : Kd α) (ok : α → Prop) : Prop :=
  ∀ (H : Type) (enc : TypeId × Value → H) (w : World) (spare : Nat → Bool) (held : Bool) (fuel : Nat) (cs : List Value) (y : DataW H) (ps : List MemPlace),
    DataW.trod enc P w 0 spare held fuel t cs = some (y, ps) → (∀ n ∈ DataW.weights P t y, n ≤ reachBytes) → ∃ x, d.K w x cs ∧ ok x

theorem opn_int {P : Program} {t : TypeId} {k : IntKind} (h : P.underlying t = some (.int k)) : Opn P t (Kd.int k) (fun x => (Lit.int k x).wf = true) := by
  intro H enc w spare held fuel cs y ps hy _
  obtain ⟨n, rfl, _, hw⟩ := DataW.trod_int h hy
  exact ⟨n, rfl, hw⟩
theorem weightsAll_mem {H : Type} {P : Program} {e : TypeId} {n : Nat} : ∀ {l : List (DataW H)} {d : DataW H}, d ∈ l → n ∈ d.weights P e → n ∈ DataW.weightsAll P e l
  | d' :: l, d, hd, hn => by
    rw [DataW.weightsAll]
    rcases List.mem_cons.1 hd with rfl | hd
    · exact List.mem_append_left _ hn
    · exact List.mem_append_right _ (weightsAll_mem hd hn)
theorem choose_list {α : Type} {p : Nat → α → Prop} : ∀ n, (∀ i, i < n → ∃ x, p i x) → ∃ xs : List α, xs.length = n ∧ ∀ i x, xs[i]? = some x → p i x
  | 0, _ => ⟨[], rfl, fun i x h => by simp at h⟩
  | n + 1, h => by
    obtain ⟨xs, hl, hx⟩ := choose_list n (fun i hi => h i (by omega))
    obtain ⟨x, hp⟩ := h n (by omega)
    refine ⟨xs ++ [x], by simp [hl], fun i y hy => ?_⟩
    rcases Nat.lt_or_ge i xs.length with hi | hi
    · rw [List.getElem?_append_left hi] at hy; exact hx i y hy
    · rw [List.getElem?_append_right hi] at hy
      have hi' : i = n := by
        have := (List.getElem?_eq_some_iff.1 hy).1
        simp at this
        omega
      subst hi'
      simp [hl] at hy
      subst hy
      exact hp
theorem opn_slice {P : Program} {t e : TypeId} {α : Type} {d : Kd α} {ok : α → Prop} (h : P.underlying t = some (.slice e)) (hs : P.cellsOf e = d.sz) (he : Opn P e d ok) :
    Opn P t (Kd.slice e d) (fun xs => xs.length * P.bytesOf e ≤ reachBytes ∧ ∀ x ∈ xs, ok x) := by
  intro H enc w spare held fuel cs y ps hy hn
  rcases open_slice h hy with ⟨rfl, hx⟩ | ⟨a, len, cap, m, n, D, Pl, rfl, hb, hl, hm, hmm, hx, hel⟩
  · exact ⟨[], ⟨none, 0, rfl, Nat.le_refl _, Kd.C_nil d w⟩, by simp⟩
  · injection hx with hx _
    subst hx
    have hlm : len ≤ m := by rw [hmm]; split <;> omega
    simp only [DataW.weights, h] at hn
    have hw : len * P.bytesOf e ≤ reachBytes := by
      have := hn _ List.mem_cons_self
      simp at this
      exact Nat.le_trans (Nat.mul_le_mul_right _ (by omega)) this
    obtain ⟨xs, hxl, hxs⟩ := choose_list (α := α) (p := fun i x => ok x ∧ ∃ c, c.length = d.sz ∧ d.K w x c ∧ ∀ j u, c[j]? = some u → w.cell? (a.add (i * d.sz + j)) = some u) len (fun i hi => by
      obtain ⟨cs', h1, h2⟩ := hel i (by omega)
      obtain ⟨x, hK, hok⟩ := he H enc w spare held n cs' (D i) (Pl i) h2 (fun q hq => hn q (List.mem_cons_of_mem _ (List.mem_append_left _ (weightsAll_mem (List.mem_map.2 ⟨i, List.mem_range.2 hi, rfl⟩) hq))))
      obtain ⟨_, hlen, hc⟩ := World.cells?_some h1
      refine ⟨x, hok, cs', d.K_len hK, hK, fun j u hu => ?_⟩
      have hj : j < P.cellsOf e := by
        have := (List.getElem?_eq_some_iff.1 hu).1
        omega
      have := hc j hj
      rw [Addr.add_add, hs] at this
      rw [this, hu])
    refine ⟨xs, ⟨some a, cap, by rw [hxl], by omega, hxl ▸ rfl, by unfold maxLen at hm; omega, fun _ => ⟨a, rfl, fun j p hp => (hxs j p hp).2⟩⟩, by rw [hxl]; exact hw, fun x hx => ?_⟩
    obtain ⟨i, hi⟩ := List.mem_iff_getElem?.1 hx
    exact (hxs i x hi).1
/-- An argument's value out of its reading. -/
theorem opn_arg {P : Program} {t : TypeId} {α : Type} {d : Kd α} {ok : α → Prop} (h : Opn P t d ok) {H : Type} {enc : TypeId × Value → H} {W : World} {ts : List TypeId} {ds : List (DataW H)} {j : Nat} {v : Value} {y : DataW H} {ps : List MemPlace}
    (hsz : (DataW.weightsEach P ts ds).all (· ≤ reachBytes) = true) (ht : ts[j]? = some t) (hd : ds[j]? = some y)
    (hr : DataW.Trod enc P W 0 (fun _ => true) true t v y ps) : ∃ x, d.K W x v.cells.toList ∧ ok x := by
  obtain ⟨fuel, hf⟩ := hr
  refine h H enc W _ _ fuel _ y ps hf (fun n hn => ?_)
  have := List.all_eq_true.1 hsz n (DataW.weights_mem_each ht hd n hn)
  simpa using this
theorem arg_slice {P : Program} {W : World} {r : Reach} {b : Nat} {t e : TypeId} {α : Type} {d : Kd α} {v : Value} {xs : List α} (ht : P.underlying t = some (.slice e)) (hv : Value.okWide P W r b t v) (h : (Kd.slice e d).K W xs v.cells.toList) :
    ∃ A c, v = .slice A xs.length c ∧ xs.length ≤ c ∧ d.C W A xs.length xs := by
  obtain ⟨a, l, c, rfl⟩ := okWide_slice ht hv
  obtain ⟨A, c', h1, h2, h3⟩ := h
  simp [Value.cells] at h1
  exact ⟨A, c', by rw [h1.1, h1.2.1, h1.2.2], h2, h3⟩
/-! ### what functions answer that are handed a function -/
section
variable {α : Type}
def anyM (F : α → Option Bool) : List α → Option Bool
  | [] => some false
  | x :: l => (F x).bind fun b => if b = true then some true else anyM F l
def idxM (F : α → Option Bool) : List α → Option Int
  | [] => some (-1)
  | x :: l => (F x).bind fun b => if b = true then some 0 else (idxM F l).bind fun i => some (if i = -1 then -1 else i + 1)
/-- What stays where F says what goes. -/
def dropM (F : α → Option Bool) : List α → Option (List α)
  | [] => some []
  | x :: l => (F x).bind fun b => (dropM F l).bind fun r => some (if b = true then r else x :: r)
theorem idxM_all {F : α → Option Bool} {l : List α} {r : Int} (h : idxM F l = some r) : ∀ (i : Nat) x, l[i]? = some x → (∀ (j : Nat) y, j < i → l[j]? = some y → F y = some false) → ∃ b, F x = some b ∧ (b = true → r = i) := by
  induction l generalizing r with
  | nil => intro i x hx; simp at hx
  | cons a l ih =>
    intro i x hx hj
    unfold idxM at h
    obtain ⟨b, hb, h⟩ := Option.bind_eq_some_iff.1 h
    cases i with
    | zero =>
      simp at hx; subst hx
      refine ⟨b, hb, fun e => ?_⟩
      subst e; rw [if_pos rfl] at h; cases h; rfl
    | succ i =>
      have h0 := hj 0 a (by omega) rfl
      rw [hb] at h0; cases h0
      rw [if_neg (by decide)] at h
      obtain ⟨q, hq, h⟩ := Option.bind_eq_some_iff.1 h
      obtain ⟨b, hb2, hb3⟩ := ih hq i x (by simpa using hx) (fun j y hlt hy => hj (j + 1) y (by omega) (by simpa using hy))
      refine ⟨b, hb2, fun e => ?_⟩
      have := hb3 e
      subst this
      rw [if_neg (by omega)] at h
      cases h; omega
theorem idxM_none {F : α → Option Bool} {l : List α} {r : Int} (h : idxM F l = some r) (hn : ∀ (i : Nat) x, l[i]? = some x → F x = some false) : r = -1 := by
  induction l generalizing r with
  | nil => cases h; rfl
  | cons a l ih =>
    unfold idxM at h
    rw [hn 0 a rfl] at h
    simp only [Option.bind_some, Bool.false_eq_true, if_false] at h
    obtain ⟨q, hq, h⟩ := Option.bind_eq_some_iff.1 h
    have := ih hq (fun i x hx => hn (i + 1) x (by simpa using hx))
    subst this
    cases h; rfl
/-- Where 'is there one' is answered, so is 'at which place is the first one' if all answer; the other way round, always. -/
theorem anyM_of_idx {F : α → Option Bool} {l : List α} {i : Int} (h : idxM F l = some i) : -1 ≤ i ∧ anyM F l = some (decide (i ≥ 0)) := by
  induction l generalizing i with
  | nil => cases h; exact ⟨by omega, rfl⟩
  | cons a l ih =>
    unfold idxM at h
    obtain ⟨b, hb, h⟩ := Option.bind_eq_some_iff.1 h
    unfold anyM
    rw [hb]
    cases b with
    | true => simp at h; subst h; exact ⟨by omega, rfl⟩
    | false =>
      simp only [Bool.false_eq_true, if_false] at h
      obtain ⟨q, hq, h⟩ := Option.bind_eq_some_iff.1 h
      obtain ⟨h1, h2⟩ := ih hq
      simp only [Option.bind_some, Bool.false_eq_true, if_false]
      rw [h2]
      by_cases e : q = -1
      · subst e; rw [if_pos rfl] at h; cases h; exact ⟨by omega, rfl⟩
      · rw [if_neg e] at h; cases h
        refine ⟨by omega, ?_⟩
        congr 1
        rw [decide_eq_decide]; omega
theorem idx_of_anyM {F : α → Option Bool} {l : List α} {r : Bool} (h : anyM F l = some r) : ∃ i, idxM F l = some i := by
  induction l with
  | nil => exact ⟨-1, rfl⟩
  | cons a l ih =>
    unfold anyM at h
    obtain ⟨b, hb, h⟩ := Option.bind_eq_some_iff.1 h
    unfold idxM
    rw [hb]
    cases b with
    | true => exact ⟨0, rfl⟩
    | false =>
      simp only [Bool.false_eq_true, if_false] at h
      obtain ⟨i, hi⟩ := ih h
      exact ⟨if i = -1 then -1 else i + 1, by simp only [Option.bind_some, Bool.false_eq_true, if_false, hi]⟩
end
/-- The same, some values ahead of the element, too. -/
def PredF (P : Program) (g : Nat) (fs lb : Array Value) {α : Type} (enc : α → Value) (F : α → Option Bool) (l : List α) (w : World) : Prop :=
  ∀ x, x ∈ l → ∀ W, Below w.heap.size w W → ∀ r, F x = some r → Calls P g (fs ++ #[enc x] ++ lb) W fun e W' => e = .returned (.bool r) ∧ Below W.heap.size W W'
end Go.Proofs.YtcplbbflfgckbaaGreatDoor.G

