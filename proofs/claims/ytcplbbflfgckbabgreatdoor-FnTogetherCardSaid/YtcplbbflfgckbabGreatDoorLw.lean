/- A law's arguments: what is read at a type is data of that type. No conditions. -/
import Derived.ProofKit
import Derived.OpenShut
import Derived.ShutString
import Derived.ChangeOld
import Derived.Below
import Derived.SizedLaws
import Derived.Deep.Slices
import Derived.Lib.SmallJoins
import Derived.Test.YtcplbbflfgckbabGreatDoorEv3
set_option linter.unusedVariables false
set_option linter.unusedSimpArgs false
namespace Go.Ab.L
open Go Go.Ab Go.ChangeShapes Go.WideShapes Go.ChangeAt Go.RowKit Go.Deep
/-- Whatever is read at type t, no part of it longer than the reach allows, is data of type d and satisfies ok. -/
def Opn (P : Program) (t : TypeId) (d : Ty) (ok : d.den → Prop) : Prop :=
  ∀ (H : Type) (enc : TypeId × Value → H) (w : World) (spare : Nat → Bool) (held : Bool) (fuel : Nat) (cs : List Value) (y : DataW H) (ps : List MemPlace),
    DataW.trod enc P w 0 spare held fuel t cs = some (y, ps) → (∀ n ∈ DataW.weights P t y, n ≤ reachBytes) → ∃ x, CK w (· < w.heap.size) d x cs ∧ ok x
theorem opn_int {P : Program} {t : TypeId} {k : IntKind} (h : P.underlying t = some (.int k)) : Opn P t (.int k) (fun x => (Lit.int k x).wf = true) := by
  intro H enc w spare held fuel cs y ps hy _
  obtain ⟨n, rfl, _, hw⟩ := DataW.trod_int h hy
  exact ⟨n, rfl, hw⟩
theorem opn_bool {P : Program} {t : TypeId} (h : P.underlying t = some .bool) : Opn P t .bool (fun _ => True) := by
  intro H enc w spare held fuel cs y ps hy _
  obtain ⟨b, rfl, _⟩ := DataW.trod_bool h hy
  exact ⟨b, rfl, trivial⟩
theorem opn_string {P : Program} {t : TypeId} (h : P.underlying t = some .string) : Opn P t .str (fun s : ByteArray => s.size ≤ reachBytes) := by
  intro H enc w spare held fuel cs y ps hy hn
  obtain ⟨s, rfl, hx, _⟩ := DataW.trod_string h hy
  refine ⟨s, rfl, ?_⟩
  injection hx with hx _
  subst hx
  have := hn s.data.toList.length (by simp [DataW.weights])
  simpa using this
theorem weightsAll_mem {H : Type} {P : Program} {e : TypeId} {n : Nat} : ∀ {l : List (DataW H)} {d : DataW H}, d ∈ l → n ∈ d.weights P e → n ∈ DataW.weightsAll P e l
  | d' :: l, d, hd, hn => by
    rw [DataW.weightsAll]
    rcases List.mem_cons.1 hd with rfl | hd
    · exact List.mem_append_left _ hn
    · exact List.mem_append_right _ (weightsAll_mem hd hn)
theorem choose_list {α : Type} {p : Nat → α → Prop} : ∀ n, (∀ i, i < n → ∃ x, p i x) → ∃ xs : List α, xs.length = n ∧ ∀ i x, xs[i]? = some x → p i x
  | 0, _ => ⟨[], rfl, fun i x h => by simp at h⟩
  | n + 1, h => by
    obtain ⟨xs, hl, hx⟩ := choose_list n (fun i hi => h i (by omega))
    obtain ⟨x, hp⟩ := h n (by omega)
    refine ⟨xs ++ [x], by simp [hl], fun i y hy => ?_⟩
    rcases Nat.lt_or_ge i xs.length with hi | hi
    · rw [List.getElem?_append_left hi] at hy; exact hx i y hy
    · rw [List.getElem?_append_right hi] at hy
      have hi' : i = n := by
        have := (List.getElem?_eq_some_iff.1 hy).1
        simp at this
        omega
      subst hi'
      simp [hl] at hy
      subst hy
      exact hp
theorem opn_slice {P : Program} {t e : TypeId} {d : Ty} {ok : d.den → Prop} (h : P.underlying t = some (.slice e)) (hs : P.cellsOf e = d.sz) (hb : Nat.blt 0 (P.bytesOf e) = true) (he : Opn P e d ok) :
    Opn P t (.row e d) (fun xs : List d.den => xs.length * P.bytesOf e ≤ reachBytes ∧ ∀ x ∈ xs, ok x) := by
  have hb0 : 0 < P.bytesOf e := Nat.le_of_ble_eq_true hb
  intro H enc w spare held fuel cs y ps hy hn
  rcases open_slice h hy with ⟨rfl, hx⟩ | ⟨a, len, cap, m, n, D, Pl, rfl, hb, hl, hm, hmm, hx, hel⟩
  · exact ⟨([] : List d.den), ⟨none, 0, rfl, le2_0, fun i x hx => by cases hx⟩, Nat.le_trans (Nat.le_of_eq (Nat.zero_mul _)) (Nat.zero_le _), fun x hx => by cases hx⟩
  · injection hx with hx _
    subst hx
    have hlm : len ≤ m := by rw [hmm]; split <;> omega
    simp only [DataW.weights, h] at hn
    have hw : len * P.bytesOf e ≤ reachBytes := by
      have := hn _ List.mem_cons_self
      simp at this
      exact Nat.le_trans (Nat.mul_le_mul_right _ (by omega)) this
    obtain ⟨xs, hxl, hxs⟩ := choose_list (α := d.den) (p := fun i x => ok x ∧ ∃ c, c.length = d.sz ∧ CK w (· < w.heap.size) d x c ∧ ∀ j u, c[j]? = some u → w.cell? (a.add (i * d.sz + j)) = some u) len (fun i hi => by
      obtain ⟨cs', h1, h2⟩ := hel i (by omega)
      obtain ⟨x, hK, hok⟩ := he H enc w spare held n cs' (D i) (Pl i) h2 (fun q hq => hn q (List.mem_cons_of_mem _ (List.mem_append_left _ (weightsAll_mem (List.mem_map.2 ⟨i, List.mem_range.2 hi, rfl⟩) hq))))
      obtain ⟨_, hlen, hc⟩ := World.cells?_some h1
      refine ⟨x, hok, cs', hK.len, hK, fun j u hu => ?_⟩
      have hj : j < P.cellsOf e := by
        have := (List.getElem?_eq_some_iff.1 hu).1
        have := hK.len
        omega
      have := hc j hj
      rw [Go.Addr.add_add, hs] at this
      rw [this, hu])
    refine ⟨xs, ⟨some a, cap, by rw [hxl], ⟨by omega, ?_⟩, fun i x hx => ⟨a, rfl, ?_, ?_⟩⟩, by rw [hxl]; exact hw, fun x hx => ?_⟩
    · unfold maxLen at hm; omega
    · obtain ⟨_, c, hcl, _, hc⟩ := hxs i x hx
      have hp := d.sz_pos
      have := World.block_lt_of_cell? w _ (hc 0 (c[0]'(by omega)) (List.getElem?_eq_getElem (by omega)))
      rwa [Addr.add_block] at this
    · obtain ⟨_, c, _, hK, hc⟩ := hxs i x hx
      exact ⟨c, hK, hc⟩
    obtain ⟨i, hi⟩ := List.mem_iff_getElem?.1 hx
    exact (hxs i x hi).1
/-- An argument's value out of its reading. -/
theorem opn_arg {P : Program} {t : TypeId} {d : Ty} {ok : d.den → Prop} (h : Opn P t d ok) {H : Type} {enc : TypeId × Value → H} {W : World} {ts : List TypeId} {ds : List (DataW H)} {j : Nat} {v : Value} {y : DataW H} {ps : List MemPlace}
    (hsz : (DataW.weightsEach P ts ds).all (· ≤ reachBytes) = true) (ht : ts[j]? = some t) (hd : ds[j]? = some y)
    (hr : DataW.Trod enc P W 0 (fun _ => true) true t v y ps) : ∃ x, CK W (· < W.heap.size) d x v.cells.toList ∧ ok x := by
  obtain ⟨fuel, hf⟩ := hr
  refine h H enc W _ _ fuel _ y ps hf (fun n hn => ?_)
  have := List.all_eq_true.1 hsz n (DataW.weights_mem_each ht hd n hn)
  simpa using this
/-- An argument of one cell. -/
theorem arg_int {P : Program} {W : World} {r : Reach} {b : Nat} {t : TypeId} {k : IntKind} {v : Value} (ht : P.underlying t = some (.int k)) (hv : Value.okWide P W r b t v) : v.cells.toList = [v] ∧ v.oneCell' = true := by
  obtain ⟨n, rfl⟩ := okWide_int ht hv
  exact ⟨rfl, rfl⟩
theorem arg_string {P : Program} {W : World} {r : Reach} {b : Nat} {t : TypeId} {v : Value} (ht : P.underlying t = some .string) (hv : Value.okWide P W r b t v) : v.cells.toList = [v] ∧ v.oneCell' = true := by
  obtain ⟨n, rfl⟩ := okWide_string ht hv
  exact ⟨rfl, rfl⟩
theorem arg_bool {P : Program} {W : World} {r : Reach} {b : Nat} {t : TypeId} {v : Value} (ht : P.underlying t = some .bool) (hv : Value.okWide P W r b t v) : v.cells.toList = [v] ∧ v.oneCell' = true := by
  have h2 : ∃ b, v = .bool b := by
    simp only [Value.okWide, ht, Cell.okWide] at hv
    cases v <;> simp_all [Cell.ok]
  obtain ⟨n, rfl⟩ := h2
  exact ⟨rfl, rfl⟩
theorem arg_slice {P : Program} {W : World} {r : Reach} {b : Nat} {t e : TypeId} {v : Value} (ht : P.underlying t = some (.slice e)) (hv : Value.okWide P W r b t v) : v.cells.toList = [v] ∧ v.oneCell' = true := by
  obtain ⟨a, l, c, rfl⟩ := okWide_slice ht hv
  exact ⟨rfl, rfl⟩
theorem in_one {w : World} {ok : Nat → Prop} {d : Ty} {x : d.den} {v : Value} (h : v.cells.toList = [v] ∧ v.oneCell' = true) (hx : CK w ok d x v.cells.toList) : ValIn w ok false [⟨d, x⟩] v := by
  rw [h.1] at hx
  exact ⟨⟨h.2, hx⟩, trivial⟩
/-- What a law returns, and that what was there is as it was. -/
theorem law_ok {P : Program} {c : Con} (hc : Con.Ok P c) {w : World} {vs : List Value} {ins : List (List TV)} {r : Bool} (hr : c.rs = [(false, [false])]) (ha : ArgsIn P w (fun b => b ∈ ([] : List Nat) ++ []) (· < w.heap.size) c.ps ins vs [] [] []) (h : c.F [] ins ([[⟨.bool, r⟩]], [])) :
    Calls P c.f vs.toArray w fun e w' => e = .returned (.bool r) ∧ Below w.heap.size w w' := by
  refine (hc w (· < w.heap.size) vs ins [] [] [] _ ha List.nodup_nil (fun b hb => by cases hb) (fun b hb => hb) h).mono fun e w' ⟨v, O, G, he, _, hp, _, hv⟩ => ?_
  rw [hr] at hv
  obtain ⟨xs, hx, hv⟩ := hv
  cases hx
  obtain ⟨⟨_, hv⟩, _⟩ := hv
  have hv : [v] = [Value.bool r] := hv
  cases hv
  exact ⟨he, hp.os, hp.tape, hp.output, hp.size, fun b hb => hp.same b hb (fun h => by cases h) (fun h => by cases h)⟩
end Go.Ab.L
