/- What is read at a type is of a kind: the bridge from a row's reading of its arguments to the printed functions' kinds; and a frame for laws. No program in it. -/
import Derived.Test.YtlhhflfljhdgkaaDoorWMore
import Derived.Test.YtlhhflfljhdgkaaDoorWSized
import Derived.ProofKit
import Derived.OpenShut
import Derived.ShutString
import Derived.ChangeOld
import Derived.Below
import Derived.SizedLaws
import Derived.Deep.Slices
import Derived.Lib.SmallJoins
set_option linter.unusedVariables false
set_option linter.unusedSimpArgs false
namespace Go.Proofs.YtlhhflfljhdgkaaDoor.G
open Go.ChangeShapes Go.WideShapes Go.ChangeAt Go.RowKit Go.Deep Go.Proofs.YtlhhflfljhdgkaaDoorW.PrintWords

/-- Whatever is read at type t, no part of it longer than the reach allows, is of kind d and satisfies ok. -/
def Opn (P : Program) (t : TypeId) {α : Type} (d : Kd α) (ok : α → Prop) : Prop :=
  ∀ (H : Type) (enc : TypeId × Value → H) (w : World) (spare : Nat → Bool) (held : Bool) (fuel : Nat) (cs : List Value) (y : DataW H) (ps : List MemPlace),
    DataW.trod enc P w 0 spare held fuel t cs = some (y, ps) → (∀ n ∈ DataW.weights P t y, n ≤ reachBytes) → ∃ x, d.K w x cs ∧ ok x

theorem opn_int {P : Program} {t : TypeId} {k : IntKind} (h : P.underlying t = some (.int k)) : Opn P t (Kd.int k) (fun x => (Lit.int k x).wf = true) := by
  intro H enc w spare held fuel cs y ps hy _
  obtain ⟨n, rfl, _, hw⟩ := DataW.trod_int h hy
  exact ⟨n, rfl, hw⟩
theorem opn_bool {P : Program} {t : TypeId} (h : P.underlying t = some .bool) : Opn P t Kd.bool (fun _ => True) := by
  intro H enc w spare held fuel cs y ps hy _
  obtain ⟨b, rfl, _⟩ := DataW.trod_bool h hy
  exact ⟨b, rfl, trivial⟩
theorem opn_string {P : Program} {t : TypeId} (h : P.underlying t = some .string) : Opn P t Kd.string (fun s => s.size ≤ reachBytes) := by
  intro H enc w spare held fuel cs y ps hy hn
  obtain ⟨s, rfl, hx, _⟩ := DataW.trod_string h hy
  refine ⟨s, rfl, ?_⟩
  injection hx with hx _
  subst hx
  have := hn s.data.toList.length (by simp [DataW.weights])
  simpa using this
theorem weightsAll_mem {H : Type} {P : Program} {e : TypeId} {n : Nat} : ∀ {l : List (DataW H)} {d : DataW H}, d ∈ l → n ∈ d.weights P e → n ∈ DataW.weightsAll P e l
  | d' :: l, d, hd, hn => by
    rw [DataW.weightsAll]
    rcases List.mem_cons.1 hd with rfl | hd
    · exact List.mem_append_left _ hn
    · exact List.mem_append_right _ (weightsAll_mem hd hn)
theorem choose_list {α : Type} {p : Nat → α → Prop} : ∀ n, (∀ i, i < n → ∃ x, p i x) → ∃ xs : List α, xs.length = n ∧ ∀ i x, xs[i]? = some x → p i x
  | 0, _ => ⟨[], rfl, fun i x h => by simp at h⟩
  | n + 1, h => by
    obtain ⟨xs, hl, hx⟩ := choose_list n (fun i hi => h i (by omega))
    obtain ⟨x, hp⟩ := h n (by omega)
    refine ⟨xs ++ [x], by simp [hl], fun i y hy => ?_⟩
    rcases Nat.lt_or_ge i xs.length with hi | hi
    · rw [List.getElem?_append_left hi] at hy; exact hx i y hy
    · rw [List.getElem?_append_right hi] at hy
      have hi' : i = n := by
        have := (List.getElem?_eq_some_iff.1 hy).1
        simp at this
        omega
      subst hi'
      simp [hl] at hy
      subst hy
      exact hp
theorem opn_slice {P : Program} {t e : TypeId} {α : Type} {d : Kd α} {ok : α → Prop} (h : P.underlying t = some (.slice e)) (hs : P.cellsOf e = d.sz) (he : Opn P e d ok) :
    Opn P t (Kd.slice e d) (fun xs => xs.length * P.bytesOf e ≤ reachBytes ∧ ∀ x ∈ xs, ok x) := by
  intro H enc w spare held fuel cs y ps hy hn
  rcases open_slice h hy with ⟨rfl, hx⟩ | ⟨a, len, cap, m, n, D, Pl, rfl, hb, hl, hm, hmm, hx, hel⟩
  · exact ⟨[], ⟨none, 0, rfl, Nat.le_refl _, Kd.C_nil d w⟩, by simp⟩
  · injection hx with hx _
    subst hx
    have hlm : len ≤ m := by rw [hmm]; split <;> omega
    simp only [DataW.weights, h] at hn
    have hw : len * P.bytesOf e ≤ reachBytes := by
      have := hn _ List.mem_cons_self
      simp at this
      exact Nat.le_trans (Nat.mul_le_mul_right _ (by omega)) this
    obtain ⟨xs, hxl, hxs⟩ := choose_list (α := α) (p := fun i x => ok x ∧ ∃ c, c.length = d.sz ∧ d.K w x c ∧ ∀ j u, c[j]? = some u → w.cell? (a.add (i * d.sz + j)) = some u) len (fun i hi => by
      obtain ⟨cs', h1, h2⟩ := hel i (by omega)
      obtain ⟨x, hK, hok⟩ := he H enc w spare held n cs' (D i) (Pl i) h2 (fun q hq => hn q (List.mem_cons_of_mem _ (List.mem_append_left _ (weightsAll_mem (List.mem_map.2 ⟨i, List.mem_range.2 hi, rfl⟩) hq))))
      obtain ⟨_, hlen, hc⟩ := World.cells?_some h1
      refine ⟨x, hok, cs', d.K_len hK, hK, fun j u hu => ?_⟩
      have hj : j < P.cellsOf e := by
        have := (List.getElem?_eq_some_iff.1 hu).1
        omega
      have := hc j hj
      rw [Addr.add_add, hs] at this
      rw [this, hu])
    refine ⟨xs, ⟨some a, cap, by rw [hxl], by omega, hxl ▸ rfl, by unfold maxLen at hm; omega, fun _ => ⟨a, rfl, fun j p hp => (hxs j p hp).2⟩⟩, by rw [hxl]; exact hw, fun x hx => ?_⟩
    obtain ⟨i, hi⟩ := List.mem_iff_getElem?.1 hx
    exact (hxs i x hi).1
/-- One field, at its place. -/
def Fld (P : Program) (f : Field) (o : Nat) {α : Type} (d : Kd α) (ok : α → Prop) : Prop := f.offset = o ∧ P.cellsOf f.type = d.sz ∧ Opn P f.type d ok
theorem fld {P : Program} {f : Field} {o : Nat} {α : Type} {d : Kd α} {ok : α → Prop} (h1 : f.offset = o) (h2 : P.cellsOf f.type = d.sz) (h3 : Opn P f.type d ok) : Fld P f o d ok := ⟨h1, h2, h3⟩
/-- The fields from one on, side by side: of kind d. -/
def Flds (P : Program) (fs : List Field) (o : Nat) {α : Type} (d : Kd α) (ok : α → Prop) : Prop :=
  ∀ (H : Type) (enc : TypeId × Value → H) (w : World) (spare : Nat → Bool) (held : Bool) (fuel : Nat) (cs : List Value) (ys : List (DataW H × List MemPlace)),
    ys.length = fs.length → (∀ (i : Nat) (f : Field), fs[i]? = some f → DataW.trod enc P w 0 spare held fuel f.type ((cs.drop f.offset).take (P.cellsOf f.type)) = ys[i]?) →
    (∀ n ∈ DataW.weightsEach P (fs.map (·.type)) (ys.map (·.1)), n ≤ reachBytes) → cs.length = o + d.sz → ∃ x, d.K w x (cs.drop o) ∧ ok x
theorem flds_one {P : Program} {f : Field} {o : Nat} {α : Type} {d : Kd α} {ok : α → Prop} (h : Fld P f o d ok) : Flds P [f] o d ok := by
  intro H enc w spare held fuel cs ys hl hy hn hc
  obtain ⟨h1, h2, h3⟩ := h
  have hy0 := hy 0 f rfl
  match ys, hl with
  | [y], _ =>
    obtain ⟨x, hK, hok⟩ := h3 H enc w spare held fuel _ y.1 y.2 (by simpa using hy0) (fun n hn' => hn n (by simp [DataW.weightsEach]; exact hn'))
    refine ⟨x, ?_, hok⟩
    rw [h1, h2] at hK
    rwa [List.take_of_length_le (by simp; omega)] at hK
theorem flds_cons {P : Program} {f : Field} {fs : List Field} {o : Nat} {α β : Type} {d : Kd α} {d2 : Kd β} {ok : α → Prop} {ok2 : β → Prop} (h : Fld P f o d ok) (h' : Flds P fs (o + d.sz) d2 ok2) : Flds P (f :: fs) o (Kd.pair d d2) (fun x => ok x.1 ∧ ok2 x.2) := by
  intro H enc w spare held fuel cs ys hl hy hn hc
  obtain ⟨h1, h2, h3⟩ := h
  have hy0 := hy 0 f rfl
  match ys, hl with
  | y :: ys, hl =>
    simp only [List.map_cons, DataW.weightsEach] at hn
    obtain ⟨x, hK, hok⟩ := h3 H enc w spare held fuel _ y.1 y.2 (by simpa using hy0) (fun n hn' => hn n (List.mem_append_left _ hn'))
    obtain ⟨x2, hK2, hok2⟩ := h' H enc w spare held fuel cs ys (by simpa using hl) (fun i f' hf => by simpa using hy (i + 1) f' (by simpa using hf)) (fun n hn' => hn n (List.mem_append_right _ hn')) (by simp [Kd.pair] at hc; omega)
    refine ⟨(x, x2), ⟨(cs.drop o).take d.sz, cs.drop (o + d.sz), ?_, ?_, hK2⟩, hok, hok2⟩
    · rw [← List.drop_drop]; exact (List.take_append_drop _ _).symm
    · rw [h1, h2] at hK; exact hK
theorem opn_struct {P : Program} {t : TypeId} {fs : Array Field} {α : Type} {d : Kd α} {ok : α → Prop} (h : P.underlying t = some (.struct fs)) (hs : P.cellsOf t = d.sz) (hf : Flds P fs.toList 0 d ok) : Opn P t d ok := by
  intro H enc w spare held fuel cs y ps hy hn
  obtain ⟨xs, n, _, hx, hl, hlen, hfs⟩ := DataW.trod_struct h hy
  injection hx with hx _
  subst hx
  obtain ⟨x, hK, hok⟩ := hf H enc w spare held n cs xs (by simpa using hlen) (fun i f hi => hfs i f (by simpa using hi)) (by
    intro q hq
    refine hn q ?_
    simp only [DataW.weights, h]
    exact hq) (by omega)
  exact ⟨x, by simpa using hK, hok⟩
/-- A kind told by a Lean structure. -/
theorem opn_iso {P : Program} {t : TypeId} {α β : Type} {d : Kd α} {ok : α → Prop} (h : Opn P t d ok) (f : β → α) (g : α → β) (hfg : ∀ x, f (g x) = x) : Opn P t (Kd.iso d f) (fun x => ok (f x)) := by
  intro H enc w spare held fuel cs y ps hy hn
  obtain ⟨x, hK, hok⟩ := h H enc w spare held fuel cs y ps hy hn
  refine ⟨g x, ?_, ?_⟩
  · show d.K w (f (g x)) cs
    rw [hfg]; exact hK
  · show ok (f (g x))
    rw [hfg]; exact hok
/-- An argument's value out of its reading. -/
theorem opn_arg {P : Program} {t : TypeId} {α : Type} {d : Kd α} {ok : α → Prop} (h : Opn P t d ok) {H : Type} {enc : TypeId × Value → H} {W : World} {ts : List TypeId} {ds : List (DataW H)} {j : Nat} {v : Value} {y : DataW H} {ps : List MemPlace}
    (hsz : (DataW.weightsEach P ts ds).all (· ≤ reachBytes) = true) (ht : ts[j]? = some t) (hd : ds[j]? = some y)
    (hr : DataW.Trod enc P W 0 (fun _ => true) true t v y ps) : ∃ x, d.K W x v.cells.toList ∧ ok x := by
  obtain ⟨fuel, hf⟩ := hr
  refine h H enc W _ _ fuel _ y ps hf (fun n hn => ?_)
  have := List.all_eq_true.1 hsz n (DataW.weights_mem_each ht hd n hn)
  simpa using this
theorem arg_int {P : Program} {W : World} {r : Reach} {b : Nat} {t : TypeId} {k : IntKind} {v : Value} {x : Int} (ht : P.underlying t = some (.int k)) (hv : Value.okWide P W r b t v) (h : (Kd.int k).K W x v.cells.toList) : v = .int k x := by
  obtain ⟨n, rfl⟩ := okWide_int ht hv
  simpa [Kd.int, Kd.scalar, Value.cells] using h
theorem arg_string {P : Program} {W : World} {r : Reach} {b : Nat} {t : TypeId} {v : Value} {x : ByteArray} (ht : P.underlying t = some .string) (hv : Value.okWide P W r b t v) (h : Kd.string.K W x v.cells.toList) : v = .string x := by
  obtain ⟨n, rfl⟩ := okWide_string ht hv
  simpa [Kd.string, Kd.scalar, Value.cells] using h
theorem arg_bool {P : Program} {W : World} {r : Reach} {b : Nat} {t : TypeId} {v : Value} {x : Bool} (ht : P.underlying t = some .bool) (hv : Value.okWide P W r b t v) (h : Kd.bool.K W x v.cells.toList) : v = .bool x := by
  have h2 : ∃ b, v = .bool b := by
    simp only [Value.okWide, ht, Cell.okWide] at hv
    cases v <;> simp_all [Cell.ok]
  obtain ⟨n, rfl⟩ := h2
  simpa [Kd.bool, Kd.scalar, Value.cells] using h
theorem arg_slice {P : Program} {W : World} {r : Reach} {b : Nat} {t e : TypeId} {α : Type} {d : Kd α} {v : Value} {xs : List α} (ht : P.underlying t = some (.slice e)) (hv : Value.okWide P W r b t v) (h : (Kd.slice e d).K W xs v.cells.toList) :
    ∃ A c, v = .slice A xs.length c ∧ xs.length ≤ c ∧ d.C W A xs.length xs := by
  obtain ⟨a, l, c, rfl⟩ := okWide_slice ht hv
  obtain ⟨A, c', h1, h2, h3⟩ := h
  simp [Value.cells] at h1
  exact ⟨A, c', by rw [h1.1, h1.2.1, h1.2.2], h2, h3⟩
theorem arg_agg {P : Program} {W : World} {r : Reach} {b : Nat} {t : TypeId} {fs : Array Field} {v : Value} {cs : List Value} (ht : P.underlying t = some (.struct fs)) (hv : Value.okWide P W r b t v) (h : v.cells.toList = cs) : v = .agg cs.toArray := by
  obtain ⟨cs', rfl, _⟩ := okWide_struct ht hv
  simp [Value.cells] at h
  rw [← h]
end Go.Proofs.YtlhhflfljhdgkaaDoor.G
