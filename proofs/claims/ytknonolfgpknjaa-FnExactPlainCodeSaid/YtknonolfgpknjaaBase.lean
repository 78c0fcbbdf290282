/- What is read at a type is of a kind: the bridge from a row's reading of its arguments to the printed functions' kinds; and a frame for laws. No program in it. -/
import Derived.Test.YtknonolfgpknjaaK
import Derived.ProofKit
import Derived.OpenShut
import Derived.ShutString
import Derived.ChangeOld
import Derived.Below
import Derived.SizedLaws
import Derived.Deep.Slices
import Derived.Lib.SmallJoins
set_option linter.unusedVariables false
set_option linter.unusedSimpArgs false
namespace Go.Proofs.Ytknonolfgpknjaa.G
open Go.ChangeShapes Go.WideShapes Go.ChangeAt Go.RowKit Go.Deep Go.Proofs.YtknonolfgpknjaaW.PrintWords

/-- Whatever is read at type t, no part of it longer than the reach allows, is of kind d and satisfies ok. -/
def Opn (P : Program) (t : TypeId) {α : Type} (d : Kd α) (ok : α → Prop) : Prop :=
  ∀ (H : Type) (enc : TypeId × Value → H) (w : World) (spare : Nat → Bool) (held : Bool) (fuel : Nat) (cs : List Value) (y : DataW H) (ps : List MemPlace),
    DataW.trod enc P w 0 spare held fuel t cs = some (y, ps) → (∀ n ∈ DataW.weights P t y, n ≤ reachBytes) → ∃ x, d.K w x cs ∧ ok x

theorem opn_int {P : Program} {t : TypeId} {k : IntKind} (h : P.underlying t = some (.int k)) : Opn P t (Kd.int k) (fun x => (Lit.int k x).wf = true) := by
  intro H enc w spare held fuel cs y ps hy _
  obtain ⟨n, rfl, _, hw⟩ := DataW.trod_int h hy
  exact ⟨n, rfl, hw⟩
theorem opn_bool {P : Program} {t : TypeId} (h : P.underlying t = some .bool) : Opn P t Kd.bool (fun _ => True) := by
  intro H enc w spare held fuel cs y ps hy _
  obtain ⟨b, rfl, _⟩ := DataW.trod_bool h hy
  exact ⟨b, rfl, trivial⟩
theorem opn_string {P : Program} {t : TypeId} (h : P.underlying t = some .string) : Opn P t Kd.string (fun s => s.size ≤ reachBytes) := by
  intro H enc w spare held fuel cs y ps hy hn
  obtain ⟨s, rfl, hx, _⟩ := DataW.trod_string h hy
  refine ⟨s, rfl, ?_⟩
  injection hx with hx _
  subst hx
  have := hn s.data.toList.length (by simp [DataW.weights])
  simpa using this
theorem weightsAll_mem {H : Type} {P : Program} {e : TypeId} {n : Nat} : ∀ {l : List (DataW H)} {d : DataW H}, d ∈ l → n ∈ d.weights P e → n ∈ DataW.weightsAll P e l
  | d' :: l, d, hd, hn => by
    rw [DataW.weightsAll]
    rcases List.mem_cons.1 hd with rfl | hd
    · exact List.mem_append_left _ hn
    · exact List.mem_append_right _ (weightsAll_mem hd hn)
theorem choose_list {α : Type} {p : Nat → α → Prop} : ∀ n, (∀ i, i < n → ∃ x, p i x) → ∃ xs : List α, xs.length = n ∧ ∀ i x, xs[i]? = some x → p i x
  | 0, _ => ⟨[], rfl, fun i x h => by simp at h⟩
  | n + 1, h => by
    obtain ⟨xs, hl, hx⟩ := choose_list n (fun i hi => h i (by omega))
    obtain ⟨x, hp⟩ := h n (by omega)
    refine ⟨xs ++ [x], by simp [hl], fun i y hy => ?_⟩
    rcases Nat.lt_or_ge i xs.length with hi | hi
    · rw [List.getElem?_append_left hi] at hy; exact hx i y hy
    · rw [List.getElem?_append_right hi] at hy
      have hi' : i = n := by
        have := (List.getElem?_eq_some_iff.1 hy).1
        simp at this
        omega
      subst hi'
      simp [hl] at hy
      subst hy
      exact hp
theorem opn_slice {P : Program} {t e : TypeId} {α : Type} {d : Kd α} {ok : α → Prop} (h : P.underlying t = some (.slice e)) (hs : P.cellsOf e = d.sz) (he : Opn P e d ok) :
    Opn P t (Kd.slice e d) (fun xs => xs.length * P.bytesOf e ≤ reachBytes ∧ ∀ x ∈ xs, ok x) := by
  intro H enc w spare held fuel cs y ps hy hn
  rcases open_slice h hy with ⟨rfl, hx⟩ | ⟨a, len, cap, m, n, D, Pl, rfl, hb, hl, hm, hmm, hx, hel⟩
  · exact ⟨[], ⟨none, 0, rfl, Nat.le_refl _, Kd.C_nil d w⟩, by simp⟩
  · injection hx with hx _
    subst hx
    have hlm : len ≤ m := by rw [hmm]; split <;> omega
    simp only [DataW.weights, h] at hn
    have hw : len * P.bytesOf e ≤ reachBytes := by
      have := hn _ List.mem_cons_self
      simp at this
      exact Nat.le_trans (Nat.mul_le_mul_right _ (by omega)) this
    obtain ⟨xs, hxl, hxs⟩ := choose_list (α := α) (p := fun i x => ok x ∧ ∃ c, c.length = d.sz ∧ d.K w x c ∧ ∀ j u, c[j]? = some u → w.cell? (a.add (i * d.sz + j)) = some u) len (fun i hi => by
      obtain ⟨cs', h1, h2⟩ := hel i (by omega)
      obtain ⟨x, hK, hok⟩ := he H enc w spare held n cs' (D i) (Pl i) h2 (fun q hq => hn q (List.mem_cons_of_mem _ (List.mem_append_left _ (weightsAll_mem (List.mem_map.2 ⟨i, List.mem_range.2 hi, rfl⟩) hq))))
      obtain ⟨_, hlen, hc⟩ := World.cells?_some h1
      refine ⟨x, hok, cs', d.K_len hK, hK, fun j u hu => ?_⟩
      have hj : j < P.cellsOf e := by
        have := (List.getElem?_eq_some_iff.1 hu).1
        omega
      have := hc j hj
      rw [Addr.add_add, hs] at this
      rw [this, hu])
    refine ⟨xs, ⟨some a, cap, by rw [hxl], by omega, hxl ▸ rfl, by unfold maxLen at hm; omega, fun _ => ⟨a, rfl, fun j p hp => (hxs j p hp).2⟩⟩, by rw [hxl]; exact hw, fun x hx => ?_⟩
    obtain ⟨i, hi⟩ := List.mem_iff_getElem?.1 hx
    exact (hxs i x hi).1
/-- One field, at its place. -/
def Fld (P : Program) (f : Field) (o : Nat) {α : Type} (d : Kd α) (ok : α → Prop) : Prop := f.offset = o ∧ P.cellsOf f.type = d.sz ∧ Opn P f.type d ok
theorem fld {P : Program} {f : Field} {o : Nat} {α : Type} {d : Kd α} {ok : α → Prop} (h1 : f.offset = o) (h2 : P.cellsOf f.type = d.sz) (h3 : Opn P f.type d ok) : Fld P f o d ok := ⟨h1, h2, h3⟩
/-- The fields from one on, side by side: of kind d. -/
def Flds (P : Program) (fs : List Field) (o : Nat) {α : Type} (d : Kd α) (ok : α → Prop) : Prop :=
  ∀ (H : Type) (enc : TypeId × Value → H) (w : World) (spare : Nat → Bool) (held : Bool) (fuel : Nat) (cs : List Value) (ys : List (DataW H × List MemPlace)),
    ys.length = fs.length → (∀ (i : Nat) (f : Field), fs[i]? = some f → DataW.trod enc P w 0 spare held fuel f.type ((cs.drop f.offset).take (P.cellsOf f.type)) = ys[i]?) →
    (∀ n ∈ DataW.weightsEach P (fs.map (·.type)) (ys.map (·.1)), n ≤ reachBytes) → cs.length = o + d.sz → ∃ x, d.K w x (cs.drop o) ∧ ok x
theorem flds_one {P : Program} {f : Field} {o : Nat} {α : Type} {d : Kd α} {ok : α → Prop} (h : Fld P f o d ok) : Flds P [f] o d ok := by
  intro H enc w spare held fuel cs ys hl hy hn hc
  obtain ⟨h1, h2, h3⟩ := h
  have hy0 := hy 0 f rfl
  match ys, hl with
  | [y], _ =>
    obtain ⟨x, hK, hok⟩ := h3 H enc w spare held fuel _ y.1 y.2 (by simpa using hy0) (fun n hn' => hn n (by simp [DataW.weightsEach]; exact hn'))
    refine ⟨x, ?_, hok⟩
    rw [h1, h2] at hK
    rwa [List.take_of_length_le (by simp; omega)] at hK
theorem flds_cons {P : Program} {f : Field} {fs : List Field} {o : Nat} {α β : Type} {d : Kd α} {d2 : Kd β} {ok : α → Prop} {ok2 : β → Prop} (h : Fld P f o d ok) (h' : Flds P fs (o + d.sz) d2 ok2) : Flds P (f :: fs) o (Kd.pair d d2) (fun x => ok x.1 ∧ ok2 x.2) := by
  intro H enc w spare held fuel cs ys hl hy hn hc
  obtain ⟨h1, h2, h3⟩ := h
  have hy0 := hy 0 f rfl
  match ys, hl with
  | y :: ys, hl =>
    simp only [List.map_cons, DataW.weightsEach] at hn
    obtain ⟨x, hK, hok⟩ := h3 H enc w spare held fuel _ y.1 y.2 (by simpa using hy0) (fun n hn' => hn n (List.mem_append_left _ hn'))
    obtain ⟨x2, hK2, hok2⟩ := h' H enc w spare held fuel cs ys (by simpa using hl) (fun i f' hf => by simpa using hy (i + 1) f' (by simpa using hf)) (fun n hn' => hn n (List.mem_append_right _ hn')) (by simp [Kd.pair] at hc; omega)
    refine ⟨(x, x2), ⟨(cs.drop o).take d.sz, cs.drop (o + d.sz), ?_, ?_, hK2⟩, hok, hok2⟩
    · rw [← List.drop_drop]; exact (List.take_append_drop _ _).symm
    · rw [h1, h2] at hK; exact hK
theorem opn_struct {P : Program} {t : TypeId} {fs : Array Field} {α : Type} {d : Kd α} {ok : α → Prop} (h : P.underlying t = some (.struct fs)) (hs : P.cellsOf t = d.sz) (hf : Flds P fs.toList 0 d ok) : Opn P t d ok := by
  intro H enc w spare held fuel cs y ps hy hn
  obtain ⟨xs, n, _, hx, hl, hlen, hfs⟩ := DataW.trod_struct h hy
  injection hx with hx _
  subst hx
  obtain ⟨x, hK, hok⟩ := hf H enc w spare held n cs xs (by simpa using hlen) (fun i f hi => hfs i f (by simpa using hi)) (by
    intro q hq
    refine hn q ?_
    simp only [DataW.weights, h]
    exact hq) (by omega)
  exact ⟨x, by simpa using hK, hok⟩
/-- A kind told by a Lean structure. -/
theorem opn_iso {P : Program} {t : TypeId} {α β : Type} {d : Kd α} {ok : α → Prop} (h : Opn P t d ok) (f : β → α) (g : α → β) (hfg : ∀ x, f (g x) = x) : Opn P t (Kd.iso d f) (fun x => ok (f x)) := by
  intro H enc w spare held fuel cs y ps hy hn
  obtain ⟨x, hK, hok⟩ := h H enc w spare held fuel cs y ps hy hn
  refine ⟨g x, ?_, ?_⟩
  · show d.K w (f (g x)) cs
    rw [hfg]; exact hK
  · show ok (f (g x))
    rw [hfg]; exact hok
/-- An argument's value out of its reading. -/
theorem opn_arg {P : Program} {t : TypeId} {α : Type} {d : Kd α} {ok : α → Prop} (h : Opn P t d ok) {H : Type} {enc : TypeId × Value → H} {W : World} {ts : List TypeId} {ds : List (DataW H)} {j : Nat} {v : Value} {y : DataW H} {ps : List MemPlace}
    (hsz : (DataW.weightsEach P ts ds).all (· ≤ reachBytes) = true) (ht : ts[j]? = some t) (hd : ds[j]? = some y)
    (hr : DataW.Trod enc P W 0 (fun _ => true) true t v y ps) : ∃ x, d.K W x v.cells.toList ∧ ok x := by
  obtain ⟨fuel, hf⟩ := hr
  refine h H enc W _ _ fuel _ y ps hf (fun n hn => ?_)
  have := List.all_eq_true.1 hsz n (DataW.weights_mem_each ht hd n hn)
  simpa using this
theorem arg_int {P : Program} {W : World} {r : Reach} {b : Nat} {t : TypeId} {k : IntKind} {v : Value} {x : Int} (ht : P.underlying t = some (.int k)) (hv : Value.okWide P W r b t v) (h : (Kd.int k).K W x v.cells.toList) : v = .int k x := by
  obtain ⟨n, rfl⟩ := okWide_int ht hv
  simpa [Kd.int, Kd.scalar, Value.cells] using h
theorem arg_string {P : Program} {W : World} {r : Reach} {b : Nat} {t : TypeId} {v : Value} {x : ByteArray} (ht : P.underlying t = some .string) (hv : Value.okWide P W r b t v) (h : Kd.string.K W x v.cells.toList) : v = .string x := by
  obtain ⟨n, rfl⟩ := okWide_string ht hv
  simpa [Kd.string, Kd.scalar, Value.cells] using h
theorem arg_bool {P : Program} {W : World} {r : Reach} {b : Nat} {t : TypeId} {v : Value} {x : Bool} (ht : P.underlying t = some .bool) (hv : Value.okWide P W r b t v) (h : Kd.bool.K W x v.cells.toList) : v = .bool x := by
  have h2 : ∃ b, v = .bool b := by
    simp only [Value.okWide, ht, Cell.okWide] at hv
    cases v <;> simp_all [Cell.ok]
  obtain ⟨n, rfl⟩ := h2
  simpa [Kd.bool, Kd.scalar, Value.cells] using h
theorem arg_slice {P : Program} {W : World} {r : Reach} {b : Nat} {t e : TypeId} {α : Type} {d : Kd α} {v : Value} {xs : List α} (ht : P.underlying t = some (.slice e)) (hv : Value.okWide P W r b t v) (h : (Kd.slice e d).K W xs v.cells.toList) :
    ∃ A c, v = .slice A xs.length c ∧ xs.length ≤ c ∧ d.C W A xs.length xs := by
  obtain ⟨a, l, c, rfl⟩ := okWide_slice ht hv
  obtain ⟨A, c', h1, h2, h3⟩ := h
  simp [Value.cells] at h1
  exact ⟨A, c', by rw [h1.1, h1.2.1, h1.2.2], h2, h3⟩
theorem arg_agg {P : Program} {W : World} {r : Reach} {b : Nat} {t : TypeId} {fs : Array Field} {v : Value} {cs : List Value} (ht : P.underlying t = some (.struct fs)) (hv : Value.okWide P W r b t v) (h : v.cells.toList = cs) : v = .agg cs.toArray := by
  obtain ⟨cs', rfl, _⟩ := okWide_struct ht hv
  simp [Value.cells] at h
  rw [← h]
/-! ### what functions answer that are handed a function -/
section
variable {α : Type}
def anyM (F : α → Option Bool) : List α → Option Bool
  | [] => some false
  | x :: l => (F x).bind fun b => if b = true then some true else anyM F l
def idxM (F : α → Option Bool) : List α → Option Int
  | [] => some (-1)
  | x :: l => (F x).bind fun b => if b = true then some 0 else (idxM F l).bind fun i => some (if i = -1 then -1 else i + 1)
/-- What stays where F says what goes. -/
def dropM (F : α → Option Bool) : List α → Option (List α)
  | [] => some []
  | x :: l => (F x).bind fun b => (dropM F l).bind fun r => some (if b = true then r else x :: r)
theorem anyM_le {F F' : α → Option Bool} (l : List α) (h : ∀ x, LeO (F x) (F' x)) : LeO (anyM F l) (anyM F' l) := by
  induction l with
  | nil => exact LeO.refl _
  | cons x l ih => exact LeO.bind (h x) (fun b => LeO.ite (LeO.refl _) ih)
theorem idxM_le {F F' : α → Option Bool} (l : List α) (h : ∀ x, LeO (F x) (F' x)) : LeO (idxM F l) (idxM F' l) := by
  induction l with
  | nil => exact LeO.refl _
  | cons x l ih => exact LeO.bind (h x) (fun b => LeO.ite (LeO.refl _) (LeO.bind ih fun _ => LeO.refl _))
theorem dropM_le {F F' : α → Option Bool} (l : List α) (h : ∀ x, LeO (F x) (F' x)) : LeO (dropM F l) (dropM F' l) := by
  induction l with
  | nil => exact LeO.refl _
  | cons x l ih => exact LeO.bind (h x) (fun b => LeO.bind ih fun _ => LeO.refl _)
theorem idxM_all {F : α → Option Bool} {l : List α} {r : Int} (h : idxM F l = some r) : ∀ (i : Nat) x, l[i]? = some x → (∀ (j : Nat) y, j < i → l[j]? = some y → F y = some false) → ∃ b, F x = some b ∧ (b = true → r = i) := by
  induction l generalizing r with
  | nil => intro i x hx; simp at hx
  | cons a l ih =>
    intro i x hx hj
    unfold idxM at h
    obtain ⟨b, hb, h⟩ := Option.bind_eq_some_iff.1 h
    cases i with
    | zero =>
      simp at hx; subst hx
      refine ⟨b, hb, fun e => ?_⟩
      subst e; rw [if_pos rfl] at h; cases h; rfl
    | succ i =>
      have h0 := hj 0 a (by omega) rfl
      rw [hb] at h0; cases h0
      rw [if_neg (by decide)] at h
      obtain ⟨q, hq, h⟩ := Option.bind_eq_some_iff.1 h
      obtain ⟨b, hb2, hb3⟩ := ih hq i x (by simpa using hx) (fun j y hlt hy => hj (j + 1) y (by omega) (by simpa using hy))
      refine ⟨b, hb2, fun e => ?_⟩
      have := hb3 e
      subst this
      rw [if_neg (by omega)] at h
      cases h; omega
theorem idxM_none {F : α → Option Bool} {l : List α} {r : Int} (h : idxM F l = some r) (hn : ∀ (i : Nat) x, l[i]? = some x → F x = some false) : r = -1 := by
  induction l generalizing r with
  | nil => cases h; rfl
  | cons a l ih =>
    unfold idxM at h
    rw [hn 0 a rfl] at h
    simp only [Option.bind_some, Bool.false_eq_true, if_false] at h
    obtain ⟨q, hq, h⟩ := Option.bind_eq_some_iff.1 h
    have := ih hq (fun i x hx => hn (i + 1) x (by simpa using hx))
    subst this
    cases h; rfl
/-- Where 'is there one' is answered, so is 'at which place is the first one' if all answer; the other way round, always. -/
theorem anyM_of_idx {F : α → Option Bool} {l : List α} {i : Int} (h : idxM F l = some i) : -1 ≤ i ∧ anyM F l = some (decide (i ≥ 0)) := by
  induction l generalizing i with
  | nil => cases h; exact ⟨by omega, rfl⟩
  | cons a l ih =>
    unfold idxM at h
    obtain ⟨b, hb, h⟩ := Option.bind_eq_some_iff.1 h
    unfold anyM
    rw [hb]
    cases b with
    | true => simp at h; subst h; exact ⟨by omega, rfl⟩
    | false =>
      simp only [Bool.false_eq_true, if_false] at h
      obtain ⟨q, hq, h⟩ := Option.bind_eq_some_iff.1 h
      obtain ⟨h1, h2⟩ := ih hq
      simp only [Option.bind_some, Bool.false_eq_true, if_false]
      rw [h2]
      by_cases e : q = -1
      · subst e; rw [if_pos rfl] at h; cases h; exact ⟨by omega, rfl⟩
      · rw [if_neg e] at h; cases h
        refine ⟨by omega, ?_⟩
        congr 1
        rw [decide_eq_decide]; omega
theorem idx_of_anyM {F : α → Option Bool} {l : List α} {r : Bool} (h : anyM F l = some r) : ∃ i, idxM F l = some i := by
  induction l with
  | nil => exact ⟨-1, rfl⟩
  | cons a l ih =>
    unfold anyM at h
    obtain ⟨b, hb, h⟩ := Option.bind_eq_some_iff.1 h
    unfold idxM
    rw [hb]
    cases b with
    | true => exact ⟨0, rfl⟩
    | false =>
      simp only [Bool.false_eq_true, if_false] at h
      obtain ⟨i, hi⟩ := ih h
      exact ⟨if i = -1 then -1 else i + 1, by simp only [Option.bind_some, Bool.false_eq_true, if_false, hi]⟩
end
/-- A function value answers as F says at the elements of l, in every world that has what lay in w. -/
def PredM (P : Program) (g : Nat) (lb : Array Value) {α : Type} (enc : α → Value) (F : α → Option Bool) (l : List α) (w : World) : Prop :=
  ∀ x, x ∈ l → ∀ W, Below w.heap.size w W → ∀ r, F x = some r → Calls P g (#[enc x] ++ lb) W fun e W' => e = .returned (.bool r) ∧ Below W.heap.size W W'
/-- The wrap over what package variables hold, the world's shape kept. -/
theorem returns_of_laid_shaped {H : Type} {enc : TypeId × Value → H} {a : Assume} {C : Checked} {os : Os} {f : FuncId} {fn : Func} {s : ChangeSpec} {conds : List PathCond} {apart fresh handsOn again : Bool} {X : World → Array Value → Prop}
    (hX : ∀ (w w' : World) (args : Array Value), w.heap = w'.heap → X w args → X w' args) (own : ownKnob C.prog.godebug = none) (started : os.Started) (noInit : C.prog.inits.idxOf? f = none) (hfn : C.prog.funcs[f]? = some fn)
    (witness : ∃ (w : World) (tape : Tape) (i : Input), w.os = os ∧ (w.forCall tape i).Shaped C.prog ∧ i.vars = [] ∧ Input.okWide C.prog (w.forCall tape i) .any w.heap.size f i ∧
      ((s.pre enc C.prog fn conds apart (w.forCall tape i).memory i.args ∧ X (w.forCall tape i).memory i.args) ∧ sizedMet enc C.prog fn (OpenSpec.ofChange s) apart (w.forCall tape i).memory i.args) ∧ a.holds C.prog (lone (Frame.enter C.prog f i.args .normal) [] (w.forCall tape i)))
    (contract : ∀ (W : World) (base : Nat) (args : Array Value) (ds gs : List (DataW H)) (before : List MemPlace),
      (∀ (j : Nat) t v, fn.params[j]? = some t → args[j]? = some v → Value.okWide C.prog W .any base t v) →
      DataW.Whole enc C.prog fn.params.toList s.vars apart W args.toList ds gs before →
      conds.all (PathCond.test C.prog ⟨fn.params.toList, ds, s.plain.varTypes C.prog, gs⟩) = true →
      (DataW.weightsEach C.prog (fn.params.toList ++ s.plain.varTypes C.prog) (ds ++ gs)).all (· ≤ reachBytes) = true → X W args → W.ShapedOpen C.prog →
      a.holds C.prog (lone (Frame.enter C.prog f args .normal) [] W) →
      Calls C.prog f args W fun e W' => ∃ v, e = .returned v ∧ s.post enc C.prog fn apart fresh handsOn again W args v W') :
    ReturnsInHanded a C os f .any (fun w args => (s.pre enc C.prog fn conds apart w args ∧ X w args) ∧ sizedMet enc C.prog fn (OpenSpec.ofChange s) apart w args) (s.post enc C.prog fn apart fresh handsOn again) := by
  refine returnsInHanded_of_calls own started noInit witness ?_
  intro w tape i _ hsh _ hok hpre hholds
  obtain ⟨_, _, _, g, hg, _, _, _, _, hval⟩ := hok
  cases Option.some.inj (hg.symm.trans hfn)
  obtain ⟨⟨⟨ds, gs, before, hw, hc⟩, hx⟩, hz⟩ := hpre
  refine (contract (w.forCall tape i) w.heap.size i.args ds gs before hval (DataW.Whole.of_heap (w' := w.forCall tape i) (by rfl) hw) hc (hz.weights hw) (hX _ _ _ (by rfl) hx) hsh hholds).mono fun e W' hp => ?_
  obtain ⟨v, rfl, hp⟩ := hp
  exact ChangeSpec.post_blind hp
end Go.Proofs.Ytknonolfgpknjaa.G
