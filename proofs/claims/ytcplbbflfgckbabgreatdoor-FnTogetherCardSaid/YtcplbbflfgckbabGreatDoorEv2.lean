/- 'append', 'clear'. No conditions. -/
import Derived.Test.YtcplbbflfgckbabGreatDoorEv1
set_option linter.unusedVariables false
set_option linter.unusedSimpArgs false
namespace Go.Ab
open Go
def RV.as (t : Ty) (rv : RV) : Option (List t.den) := if h : rv.t = t then some (h ▸ rv.xs) else none
theorem RV.as_eq {t : Ty} {rv : RV} {xs : List t.den} (h : rv.as t = some xs) : rv = ⟨t, xs⟩ := by
  obtain ⟨t', ys⟩ := rv
  unfold RV.as at h
  split at h
  · rename_i e
    have e' : t' = t := e
    subst e'
    cases h
    rfl
  · cases h
def appTo (d : Nat) (e : TypeId) (ie : TI) (x : CV) (rv : RV) (s : St) (K : AV → St → Prop) : Prop :=
  match x with
  | .own id gen => match CV.rowId s id gen with
    | some r => bif Nat.beq r.e e && Nat.beq ie.size r.t.sz then
        match rv.as r.t with
        | some ys => Need (r.xs.length + ys.length ≤ LIM ie.bytes) (K (sv1 (.own id (gen + 1))) (s.row id ⟨r.e, r.t, r.xs ++ ys, gen + 1⟩))
        | none => False
      else False
    | none => False
  | .nil _ t => match s.rw d with
    | none => bif Nat.beq ie.size t.sz then
        match rv.as t with
        | some ys => Need (0 + ys.length ≤ LIM ie.bytes) (K (sv1 (.own d 0)) (s.row d ⟨e, t, [] ++ ys, 0⟩))
        | none => False
      else False
    | some _ => False
  | .sub id gen lo hi => match CV.rowId s id gen with
    | some r => bif Nat.beq lo 0 && (Nat.beq r.e e && Nat.beq ie.size r.t.sz) then
        match rv.as r.t with
        | some ys => Need ((tk r.xs hi).length + ys.length ≤ LIM ie.bytes) (K (sv1 (.own id (gen + 1))) (s.row id ⟨r.e, r.t, tk r.xs hi ++ ys, gen + 1⟩))
        | none => False
      else False
    | none => False
  | _ => False
def appE (T : Tab) (d : Nat) (t t' : TypeId) (x y : AV) (s : St) (K : AV → St → Prop) : Prop :=
  match T.get t with
  | none => False
  | some ti => match ti.d with
    | .slice e => match T.get e with
      | none => False
      | some ie => match ie.ty, x, y with
        | some _, .sv false [cx], .sv false [cy] => bif Nat.beq t' t then
            match cy.row s with
            | some rv => appTo d e ie cx rv s K
            | none => False
          else False
        | _, _, _ => False
    | _ => False
section
variable {P : Program} {T : Tab} {w0 w w' : World} {M : Mv} {n : Nat} {s s' : St} {a : Act} {g g' : Gh}
theorem Sim.grow (hs : Sim w0 M n s a w g) {id : Nat} {q : Row} (hq : s.rw id = some q) {v' : Value} {xs' : List q.t.den} {cs' : List Value} (hg : w.grownBy w' (g.rv id q.gen).ownBlock) (hown : w'.ownsRow 0 q.e q.t.sz v' xs'.length cs')
    (hk : CKs w (okL g.lab) q.t xs' cs') (hone : v'.oneCell' = true) (hblk : (v'.ownBlock = (g.rv id q.gen).ownBlock ∧ w'.heap.size = w.heap.size) ∨ (v'.ownBlock = some w.heap.size ∧ w'.heap.size = w.heap.size + 1)) :
    ∃ g', Sim w0 M n (s.row id ⟨q.e, q.t, xs', q.gen + 1⟩) a w' g' ∧ VR w' g' (s.row id ⟨q.e, q.t, xs', q.gen + 1⟩) (sv1 (.own id (q.gen + 1))) v' := by
  have h0 := hs.rw id q hq
  have hrow : ∀ b, (g.rv id q.gen).ownBlock = some b → g.lab b = Lab.row id := h0.lab
  have hL0 : ¬ (Lab.row id = .old ∨ Lab.row id = .hid ∨ Lab.row id = .fz ∨ Lab.row id = .free) := by simp
  obtain ⟨lab', hlab, hnew⟩ : ∃ lab' : Nat → Lab, ((w'.heap.size = w.heap.size ∧ lab' = g.lab) ∨ (w'.heap.size = w.heap.size + 1 ∧ lab' = fset g.lab w.heap.size (.row id))) ∧ ∀ b, v'.ownBlock = some b → lab' b = .row id := by
    rcases hblk with ⟨h1, h2⟩ | ⟨h1, h2⟩
    · exact ⟨g.lab, .inl ⟨h2, rfl⟩, fun b hb => hrow b (by rw [← h1]; exact hb)⟩
    · exact ⟨fset g.lab w.heap.size (.row id), .inr ⟨h2, rfl⟩, fun b hb => by rw [h1] at hb; cases hb; exact fset_same _ _ _⟩
  let g' : Gh := { g with lab := lab', rv := fset g.rv id (fset (g.rv id) (q.gen + 1) v'), cg := fset g.cg id (q.gen + 1) }
  have hrv : g'.rv id (q.gen + 1) = v' := by
    show fset g.rv id _ id _ = _
    rw [fset_same, fset_same]
  have he : Ext s g w (s.row id ⟨q.e, q.t, xs', q.gen + 1⟩) g' w' := ext_wr (g' := g') hs hg hrow hL0 hlab (fun j hj => by
      show fset s.rw id _ j ≠ none ∧ g.cg j ≤ fset g.cg id _ j ∧ ∀ k, k ≤ g.cg j → fset g.rv id _ j k = g.rv j k
      by_cases e : j = id
      · subst e
        rw [fset_same, fset_same, fset_same]
        have := h0.gen
        exact ⟨by simp, by omega, fun k hk => fset_ne _ _ (by omega)⟩
      · rw [fset_ne _ _ e, fset_ne _ _ e, fset_ne _ _ e]
        exact ⟨hj, Nat.le_refl _, fun _ _ => rfl⟩)
    (fun j r r' h1 h2 h3 => by
      have h2' : fset s.rw id (some ⟨q.e, q.t, xs', q.gen + 1⟩) j = some r' := h2
      by_cases e : j = id
      · subst e
        rw [fset_same] at h2'
        cases h2'
        have := h0.gen
        have h3' : q.gen + 1 ≤ g.cg j := h3
        omega
      · rw [fset_ne _ _ e] at h2'
        rw [h2'] at h1
        cases h1
        exact ⟨rfl, rfl, rfl⟩) (fun j hj => ⟨hj, rfl⟩)
  refine ⟨g', hs.wr hg hrow hL0 (L := .row id) (by simp) hlab he rfl (fun j b hb => .inl ⟨hb, by simp, rfl⟩) (fun j p hp => ?_), sv1_ok hone ⟨by show fset s.rw id _ id ≠ none; rw [fset_same]; simp, by show q.gen + 1 ≤ fset g.cg id _ id; rw [fset_same]; exact Nat.le_refl _, hrv.symm⟩⟩
  have hp' : fset s.rw id (some ⟨q.e, q.t, xs', q.gen + 1⟩) j = some p := hp
  by_cases e : j = id
  · subst e
    rw [fset_same] at hp'
    cases hp'
    exact .inr ⟨by show q.gen + 1 = fset g.cg j _ j; rw [fset_same], fun b hb => hnew b (by rw [← hrv]; exact hb), cs', by rw [hrv]; exact hown, hk.frame (fun b hb => (he.ok b hb).1) (fun b hb => (he.ok b hb).2)⟩
  · rw [fset_ne _ _ e] at hp'
    exact .inl ⟨hp', by simp; exact e, fset_ne _ _ e, by show fset g.rv id _ j _ = _; rw [fset_ne _ _ e]⟩
/-- A new row, or none at all. -/
theorem Sim.newRow' (hs : Sim w0 M n s a w g) {id : Nat} (hid : s.rw id = none) {e : TypeId} {t : Ty} {xs : List t.den} {v : Value} {cs : List Value} (hg : w.grownBy w' none)
    (hown : w'.ownsRow 0 e t.sz v xs.length cs) (hblk : (v.ownBlock = none ∧ w'.heap.size = w.heap.size) ∨ (v.ownBlock = some w.heap.size ∧ w'.heap.size = w.heap.size + 1)) (hk : CKs w (okL g.lab) t xs cs) (h1 : v.oneCell' = true) :
    ∃ g', Sim w0 M n (s.row id ⟨e, t, xs, 0⟩) a w' g' ∧ VR w' g' (s.row id ⟨e, t, xs, 0⟩) (sv1 (.own id 0)) v := by
  rcases hblk with ⟨hb, hz⟩ | ⟨hb, hz⟩
  · let g' : Gh := { g with rv := fset g.rv id (fun _ => v), cg := fset g.cg id 0 }
    have hrow : ∀ b, (none : Option Nat) = some b → g.lab b = Lab.row id := fun b e => by cases e
    have hL0 : ¬ (Lab.row id = .old ∨ Lab.row id = .hid ∨ Lab.row id = .fz ∨ Lab.row id = .free) := by simp
    have hrv : g'.rv id = fun _ => v := fset_same _ _ _
    have he : Ext s g w (s.row id ⟨e, t, xs, 0⟩) g' w' := ext_wr (g' := g') hs hg hrow hL0 (L := .fz) (.inl ⟨hz, rfl⟩) (fun j hj => by
        have hne : j ≠ id := by rintro rfl; exact hj hid
        show fset s.rw id _ j ≠ none ∧ g.cg j ≤ fset g.cg id _ j ∧ ∀ k, k ≤ g.cg j → fset g.rv id _ j k = g.rv j k
        rw [fset_ne _ _ hne, fset_ne _ _ hne, fset_ne _ _ hne]
        exact ⟨hj, Nat.le_refl _, fun _ _ => rfl⟩)
      (fun j r r' h1 h2 _ => by
        have hne : j ≠ id := by rintro rfl; rw [hid] at h1; cases h1
        have h2' : fset s.rw id (some ⟨e, t, xs, 0⟩) j = some r' := h2
        rw [fset_ne _ _ hne, h1] at h2'
        cases h2'
        exact ⟨rfl, rfl, rfl⟩) (fun j hj => ⟨hj, rfl⟩)
    refine ⟨g', hs.wr hg hrow hL0 (L := .fz) (by simp) (.inl ⟨hz, rfl⟩) he rfl (fun j b hb => .inl ⟨hb, by simp, rfl⟩) (fun j p hp => ?_), sv1_ok h1 ⟨by show fset s.rw id _ id ≠ none; rw [fset_same]; simp, Nat.zero_le _, by rw [hrv]⟩⟩
    have hp' : fset s.rw id (some ⟨e, t, xs, 0⟩) j = some p := hp
    by_cases ej : j = id
    · subst ej
      rw [fset_same] at hp'
      cases hp'
      exact .inr ⟨by show 0 = fset g.cg j _ j; rw [fset_same], (fun b h => by rw [hrv] at h; rw [hb] at h; cases h), cs, by rw [hrv]; exact hown, hk.frame (fun b hb => (he.ok b hb).1) (fun b hb => (he.ok b hb).2)⟩
    · rw [fset_ne _ _ ej] at hp'
      exact .inl ⟨hp', by simp; exact ej, fset_ne _ _ ej, by show fset g.rv id _ j _ = _; rw [fset_ne _ _ ej]⟩
  · obtain ⟨g', k1, _, k2⟩ := hs.newRow hid hg hz hown hb hk h1
    exact ⟨g', k1, k2⟩
theorem appTo_ok {K : AV → St → Prop} (hT : T.Good P) (hs : Sim w0 M n s a w g) {d : Nat} {t ty e : TypeId} {ti ie : TI} {tt : Ty} (hti : T.get t = some ti) (hd : ti.d = .slice e) (hie : T.get e = some ie) (htt : ie.ty = some tt) {x c : CV} {rv : RV} {vx vy : Value}
    (h : appTo d e ie x rv s K) (hrv : c.row s = some rv) (hx : VR w g s (.sv false [x]) vx) (hy : CR w g s c vy) : ∃ av s', K av s' ∧ Does P w0 M n a w (Builtin.append_ #[t, t] ty #[vx, vy]) av s' := by
  obtain ⟨dd, k1, k2⟩ := (hT.get hti).under
  rw [hd] at k2
  obtain rfl := TD.of_slice k2
  obtain ⟨inf, f1, f2, f3, f4⟩ := (hT.get hie).inf
  have hgood := (hT.get hie).ty
  rw [htt] at hgood
  have hzs : ie.zero.cells.size = inf.size := by rw [← Array.length_toList, hgood.2, zcs_len, f2, hgood.1]
  have hsz : 0 < inf.size := by rw [f2, hgood.1]; exact tt.sz_pos
  obtain ⟨A, cp, cs, rfl, hcks, hcells⟩ := row_cells hs hrv hy
  unfold appTo at h
  split at h
  · rename_i id gen
    obtain ⟨_, q1, q2, q3⟩ := one_inv hx
    split at h
    · rename_i q hq
      obtain ⟨e1, rfl⟩ := rowId_eq hq
      cases hb : Nat.beq q.e e && Nat.beq ie.size q.t.sz with
      | false => rw [hb] at h; cases h
      | true =>
      rw [hb] at h
      rw [Bool.and_eq_true] at hb
      have b1 := Nat.eq_of_beq_eq_true hb.1
      have b2 := Nat.eq_of_beq_eq_true hb.2
      dsimp only [cond] at h
      split at h
      · rename_i ys hys
        obtain rfl := RV.as_eq hys
        obtain ⟨hlt, h⟩ := h
        · obtain ⟨l1, l3⟩ := lim_ok hlt
          obtain ⟨m1, m2, cs0, m3, m4⟩ := hs.rw id q e1
          rw [q3]
          rw [← b2, b1, ← f2] at m3
          obtain ⟨v', w', r1, r2, r3, r4, r5⟩ := append_row (P := P) (ty := ty) k1 f1 f4 hzs hsz m3 (A := A) (m := ys.length) (c := cp) (news := cs) (by rw [hcks.len, f2, b2]) hcells hcks.one (by rw [f3]; exact l1) l3
          obtain ⟨g', s1, s2⟩ := hs.grow e1 (v' := v') (xs' := q.xs ++ ys) r3 (by rw [List.length_append, ← b2, b1, ← f2]; exact r2) (CKs.app hcks m4) r4 r5
          exact ⟨_, _, h, v', w', g', r1, s1, s2⟩
      · cases h
    · cases h
  · rename_i e' t0
    have hx2 : vx = .slice none 0 0 := (one_inv hx).2
    subst hx2
    split at h
    · rename_i hrow
      cases hb : Nat.beq ie.size t0.sz with
      | false => rw [hb] at h; cases h
      | true =>
      rw [hb] at h
      have b2 := Nat.eq_of_beq_eq_true hb
      dsimp only [cond] at h
      split at h
      · rename_i ys hys
        obtain rfl := RV.as_eq hys
        obtain ⟨hlt, h⟩ := h
        · obtain ⟨l1, l3⟩ := lim_ok hlt
          obtain ⟨v', w', r1, r2, r3, r4, r5⟩ := append_row (P := P) (ty := ty) k1 f1 f4 hzs hsz (World.ownsRow_nil w 0 e inf.size) (A := A) (m := ys.length) (c := cp) (news := cs) (by rw [hcks.len, f2, b2]) hcells hcks.one (by rw [f3]; exact l1) l3
          obtain ⟨g', s1, s2⟩ := hs.newRow' (id := d) hrow (e := e) (t := t0) (xs := [] ++ ys) (v := v') (cs := [] ++ cs) r3 (by rw [← b2, ← f2]; simpa using r2) r5 (by simpa using hcks) r4
          exact ⟨_, _, h, v', w', g', r1, s1, s2⟩
      · cases h
    · cases h
  · rename_i id gen lo hi
    obtain ⟨_, q1, q2, q3⟩ := one_inv hx
    split at h
    · rename_i q hq
      obtain ⟨e1, rfl⟩ := rowId_eq hq
      cases hb : Nat.beq lo 0 && (Nat.beq q.e e && Nat.beq ie.size q.t.sz) with
      | false => rw [hb] at h; cases h
      | true =>
      rw [hb] at h
      rw [Bool.and_eq_true, Bool.and_eq_true] at hb
      have b0 := Nat.eq_of_beq_eq_true hb.1
      have b1 := Nat.eq_of_beq_eq_true hb.2.1
      have b2 := Nat.eq_of_beq_eq_true hb.2.2
      subst b0
      dsimp only [cond] at h
      split at h
      · rename_i ys hys
        obtain rfl := RV.as_eq hys
        obtain ⟨hlt, h⟩ := h
        · obtain ⟨l1, l3⟩ := lim_ok hlt
          obtain ⟨m1, m2, cs0, m3, m4⟩ := hs.rw id q e1
          obtain ⟨p1, p2, p3⟩ := q3 q e1 rfl
          simp only [tk_eq] at h l1 l3
          generalize hi.getD q.xs.length = hi at h l1 l3 p1 p2 p3 ⊢
          have htk : CKs w (okL g.lab) q.t (q.xs.take hi) (cs0.take (hi * q.t.sz)) := by
            have key : ∀ (k : Nat) {xs : List q.t.den} {cs : List Value}, CKs w (okL g.lab) q.t xs cs → CKs w (okL g.lab) q.t (xs.take k) (cs.take (k * q.t.sz)) := by
              intro k
              induction k with
              | zero => intro xs cs h; simp only [Nat.zero_mul, List.take_zero]; exact rfl
              | succ k ih =>
                intro xs cs h
                match xs, h with
                | [], h => rw [show cs = [] from h]; simp only [List.take_nil]; exact rfl
                | x :: xs, ⟨c1, c2, e, h1, h2⟩ =>
                  have hl := h1.len
                  have e2 : (k + 1) * q.t.sz = c1.length + k * q.t.sz := by rw [Nat.add_mul, Nat.one_mul, hl]; omega
                  rw [e, List.take_succ_cons, e2, List.take_length_add_append]
                  exact ⟨c1, _, rfl, h1, ih h2⟩
            exact key hi m4
          have hhl : (q.xs.take hi).length = hi := by rw [List.length_take]; omega
          have hsub : w.ownsRow 0 q.e q.t.sz vx hi (cs0.take (hi * q.t.sz)) ∧ vx.ownBlock = (g.rv id q.gen).ownBlock := by
            rw [p3]
            have hlen := htk.len
            rw [hhl] at hlen
            rcases m3.2 with ⟨e, hn⟩ | ⟨b, cap, cur, e, x1, x2, x3, x4, x5, x6⟩
            · rw [e]
              have : hi = 0 := by omega
              subst this
              exact ⟨⟨hlen, .inl ⟨by simp [subV], rfl⟩⟩, by simp [subV]⟩
            · rw [e]
              have hA : (if cap = 0 then some (⟨b, 0, none⟩ : Addr) else (some (⟨b, 0, none⟩ : Addr)).map (·.add (0 * q.t.sz))) = some ⟨b, 0, none⟩ := by
                split
                · rfl
                · simp [Addr.add]
              simp only [subV, hA, Nat.sub_zero]
              refine ⟨⟨hlen, .inr ⟨b, cap, cur, rfl, x1, x2, by omega, x4, x5, ?_⟩⟩, rfl⟩
              rw [← x6, List.take_take]
              congr 1
              have : hi * q.t.sz ≤ q.xs.length * q.t.sz := Nat.mul_le_mul_right _ p2
              omega
          obtain ⟨hsub1, hsub2⟩ := hsub
          rw [← b2, b1, ← f2] at hsub1
          rw [hhl] at l1 l3
          obtain ⟨v', w', r1, r2, r3, r4, r5⟩ := append_row (P := P) (ty := ty) k1 f1 f4 hzs hsz hsub1 (A := A) (m := ys.length) (c := cp) (news := cs) (by rw [hcks.len, f2, b2]) hcells hcks.one (by rw [f3]; exact l1) l3
          rw [hsub2] at r3 r5
          obtain ⟨g', s1, s2⟩ := hs.grow e1 (v' := v') (xs' := q.xs.take hi ++ ys) (cs' := cs0.take (hi * q.t.sz) ++ cs) r3 (by rw [List.length_append, hhl]; have := r2; rw [f2, b2, ← b1] at this; exact this) (CKs.app hcks htk) r4 r5
          exact ⟨_, _, h, v', w', g', r1, s1, s2⟩
      · cases h
    · cases h
  · cases h
theorem appE_ok {K : AV → St → Prop} (hT : T.Good P) (hs : Sim w0 M n s a w g) {d : Nat} {t t' ty : TypeId} {x y : AV} {vx vy : Value} (h : appE T d t t' x y s K) (hx : VR w g s x vx) (hy : VR w g s y vy) :
    ∃ av s', K av s' ∧ Does P w0 M n a w (Builtin.append_ #[t, t'] ty #[vx, vy]) av s' := by
  unfold appE at h
  split at h
  · exact h.elim
  rename_i ti hti
  split at h
  · rename_i e hd
    split at h
    · exact h.elim
    rename_i ie hie
    split at h
    · rename_i tt cx cy htt
      cases hb : Nat.beq t' t with
      | false => rw [hb] at h; exact h.elim
      | true =>
      rw [hb] at h
      obtain rfl := Nat.eq_of_beq_eq_true hb
      dsimp only [cond] at h
      split at h
      · rename_i rv hrv
        exact appTo_ok hT hs hti hd hie htt h hrv hx (one_inv hy).2
      · exact h.elim
    · exact h.elim
  · exact h.elim
end
end Go.Ab
/- Calls of functions of which it is known what they return. No conditions. -/
namespace Go.Ab
open Go
/-! ### What is known of a function -/
/-- A function that is handed over: its arguments (structs?), its results (structs? their cells: rows of the caller's own?). -/
structure Sig where
  ps : List Bool
  rs : List (Bool × List Bool)
abbrev Rel := List (List TV) → List (List TV) → Prop
inductive PM where
  | val (agg : Bool)       -- a value that is read
  | ptr (ty : TypeId)      -- a pointer to a variable that is read and may be written
  | rd (t : Ty)            -- a pointer to a variable that is only read
  | fn (sg : Sig)          -- a function
  | rdf (sg : Sig)         -- a pointer to a variable that holds a function
  | own (e : TypeId) (t : Ty)  -- a row of the caller's own, handed over
structure Con where
  f : FuncId
  ps : List PM
  rs : List (Bool × List Bool)    -- each result: a struct? its cells: a row of the caller's own from then on?
  shr : Bool                      -- may what it returns lie in what came in?
  F : List Rel → List (List TV) → List (List TV) × List (List TV) → Prop
/-- A result's cells: rows of the caller's own lie in block O. -/
def CellOut (w : World) (ok : Nat → Prop) (O : Option Nat) : List Bool → List TV → List Value → Prop
  | [], [], [] => True
  | false :: fs, x :: xs, v :: vs => (v.oneCell' = true ∧ CK w ok x.t x.x [v]) ∧ CellOut w ok O fs xs vs
  | true :: fs, x :: xs, v :: vs => (v.oneCell' = true ∧ v.ownBlock = O ∧ ∃ (e : TypeId) (t : Ty) (ys : List t.den) (cs : List Value), x = ⟨.row e t, ys⟩ ∧ w.ownsRow 0 e t.sz v ys.length cs ∧ CKs w ok t ys cs) ∧ CellOut w ok O fs xs vs
  | _, _, _ => False
def ValOut (w : World) (ok : Nat → Prop) (O : Option Nat) (m : Bool × List Bool) (xs : List TV) (v : Value) : Prop :=
  match m.1 with
  | true => ∃ arr : Array Value, v = .agg arr ∧ CellOut w ok O m.2 xs arr.toList
  | false => CellOut w ok O m.2 xs [v]
def ValsOut (w : World) (ok : Nat → Prop) (O : Option Nat) : List (Bool × List Bool) → List (List TV) → List Value → Prop
  | [], [], [] => True
  | m :: ms, xs :: outs, v :: vs => ValOut w ok O m xs v ∧ ValsOut w ok O ms outs vs
  | _, _, _ => False
def ResOut (w : World) (ok : Nat → Prop) (O : Option Nat) (rs : List (Bool × List Bool)) (outs : List (List TV)) (v : Value) : Prop :=
  match rs with
  | [m] => ∃ xs, outs = [xs] ∧ ValOut w ok O m xs v
  | _ => ∃ arr : Array Value, v = .tuple arr ∧ ValsOut w ok O rs outs arr.toList
structure Post (w w' : World) (bs ms : List Nat) (O : Option Nat) : Prop where
  os : w'.os = w.os
  tape : w'.tape = w.tape
  output : w'.output = w.output
  size : w.heap.size ≤ w'.heap.size
  same : ∀ b, b < w.heap.size → b ∉ bs → b ∉ ms → w'.heap[b]? = w.heap[b]?
  own : ∀ b, O = some b → (w.heap.size ≤ b ∨ b ∈ ms) ∧ b < w'.heap.size
/-- Where what comes back may lie; G: blocks of rows that were handed over. -/
def okOut (w w' : World) (ok : Nat → Prop) (O : Option Nat) (G : Nat → Prop) (b : Nat) : Prop := ok b ∨ ((w.heap.size ≤ b ∨ G b) ∧ b < w'.heap.size ∧ some b ≠ O)
def noG : Nat → Prop := fun _ => False
def Callable (P : Program) (f : FuncId) : Prop := ∃ fn, P.funcs[f]? = some fn ∧ (fn.name == "runtime.NumGoroutine") = false ∧ fn.body.isSome = true
/-- A function value, in all worlds that come of w without a write outside A. -/
def FnOk (P : Program) (w : World) (A : Nat → Prop) (v : Value) (sg : Sig) (R : Rel) : Prop :=
  ∃ (f : FuncId) (first caps : Array Value), v = .func (.func f) first caps ∧ Callable P f ∧
    ∀ (w' : World) (ok : Nat → Prop) (args : List (Bool × List TV)) (vs : List Value) (out : List (List TV)), w.heap.size ≤ w'.heap.size → (∀ b, b < w.heap.size → ¬ A b → w'.heap[b]? = w.heap[b]?) →
      FstIn w' ok args vs → args.map (·.1) = sg.ps → (∀ b, ok b → b < w'.heap.size) → R (args.map (·.2)) out →
      Calls P f (first ++ vs.toArray ++ caps) w' fun e w'' => ∃ u O, e = .returned u ∧ Post w' w'' [] [] O ∧ ResOut w'' (okOut w' w'' ok O noG) O sg.rs out u
def RdIn (w : World) (ok : Nat → Prop) (t : Ty) (xs : List TV) (v : Value) : Prop :=
  ∃ (x : t.den) (ad : Addr) (es : List Value), xs = [⟨t, x⟩] ∧ v = .pointer (some ad) ∧ ok ad.block ∧ CK w ok t x es ∧ ∀ (j : Nat) (u : Value), es[j]? = some u → w.cell? (ad.add j) = some u
def OwnIn (w : World) (ok : Nat → Prop) (e : TypeId) (t : Ty) (xs : List TV) (v : Value) : Prop :=
  v.oneCell' = true ∧ ∃ (ys : List t.den) (cs : List Value), xs = [⟨.row e t, ys⟩] ∧ w.ownsRow 0 e t.sz v ys.length cs ∧ CKs w ok t ys cs
/-- The arguments; bs: the blocks of variables that are handed over; ms: those of rows; Rs: what the functions do. -/
def ArgsIn (P : Program) (w : World) (A ok : Nat → Prop) : List PM → List (List TV) → List Value → List Nat → List Nat → List Rel → Prop
  | [], [], [], bs, ms, Rs => bs = [] ∧ ms = [] ∧ Rs = []
  | .val agg :: ps, xs :: ins, v :: vs, bs, ms, Rs => ValIn w ok agg xs v ∧ ArgsIn P w A ok ps ins vs bs ms Rs
  | .ptr ty :: ps, xs :: ins, v :: vs, bs, ms, Rs => ∃ b bs', bs = b :: bs' ∧ v = .pointer (some ⟨b, 0, none⟩) ∧ (∃ arr, w.heap[b]? = some (.cells arr ty (0, 0)) ∧ CellIn w ok xs arr.toList) ∧ ArgsIn P w A ok ps ins vs bs' ms Rs
  | .rd t :: ps, xs :: ins, v :: vs, bs, ms, Rs => RdIn w ok t xs v ∧ ArgsIn P w A ok ps ins vs bs ms Rs
  | .fn sg :: ps, ins, v :: vs, bs, ms, Rs => ∃ R Rs', Rs = R :: Rs' ∧ FnOk P w A v sg R ∧ ArgsIn P w A ok ps ins vs bs ms Rs'
  | .rdf sg :: ps, ins, v :: vs, bs, ms, Rs => ∃ R Rs', Rs = R :: Rs' ∧ (∃ ad fv, v = .pointer (some ad) ∧ ok ad.block ∧ w.cell? ad = some fv ∧ FnOk P w A fv sg R) ∧ ArgsIn P w A ok ps ins vs bs ms Rs'
  | .own e t :: ps, xs :: ins, v :: vs, bs, ms, Rs => ∃ ms', ms = v.ownBlock.toList ++ ms' ∧ OwnIn w ok e t xs v ∧ ArgsIn P w A ok ps ins vs bs ms' Rs
  | _, _, _, _, _, _ => False
/-- The variables and the rows behind the call; of a row nothing, where it was kept. -/
def VarsOut (w : World) (ok : Nat → Prop) (O : Option Nat) (G : Nat → Prop) : List PM → List (List TV) → List Value → List Nat → Prop
  | [], ns, _, bs => ns = [] ∧ bs = []
  | .ptr ty :: ps, xs :: ns, _ :: vs, b :: bs => (∃ arr, w.heap[b]? = some (.cells arr ty (0, 0)) ∧ CellIn w ok xs arr.toList) ∧ VarsOut w ok O G ps ns vs bs
  | .own e t :: ps, xs :: ns, v :: vs, bs => (xs = [] ∨ (OwnIn w ok e t xs v ∧ ∀ b, v.ownBlock = some b → some b ≠ O ∧ ¬ G b)) ∧ VarsOut w ok O G ps ns vs bs
  | .val _ :: ps, ns, _ :: vs, bs => VarsOut w ok O G ps ns vs bs
  | .rd _ :: ps, ns, _ :: vs, bs => VarsOut w ok O G ps ns vs bs
  | .fn _ :: ps, ns, _ :: vs, bs => VarsOut w ok O G ps ns vs bs
  | .rdf _ :: ps, ns, _ :: vs, bs => VarsOut w ok O G ps ns vs bs
  | _, _, _, _ => False
def Con.Ok (P : Program) (c : Con) : Prop :=
  ∀ (w : World) (ok : Nat → Prop) (vs : List Value) (ins : List (List TV)) (bs ms : List Nat) (Rs : List Rel) (out : List (List TV) × List (List TV)),
    ArgsIn P w (fun b => b ∈ bs ++ ms) ok c.ps ins vs bs ms Rs → (bs ++ ms).Nodup → (∀ b ∈ bs ++ ms, ¬ ok b) → (∀ b, ok b → b < w.heap.size) → c.F Rs ins out →
    Calls P c.f vs.toArray w fun e w' => ∃ v O G, e = .returned v ∧ (∀ b, G b → b ∈ ms) ∧ Post w w' bs ms O ∧ VarsOut w' (okOut w w' ok O G) O G c.ps out.2 vs bs ∧ ResOut w' (okOut w w' ok O G) O c.rs out.1 v
/-- Types without rows. -/
def Ty.flat : Ty → Bool
  | .pair a b => a.flat && b.flat
  | .row _ _ => false
  | _ => true
theorem CK.flat {w w2 : World} {ok ok2 : Nat → Prop} : ∀ {t : Ty} {x : t.den} {cs : List Value}, t.flat = true → CK w ok t x cs → CK w2 ok2 t x cs
  | .int _, _, _, _, h => h
  | .bool, _, _, _, h => h
  | .str, _, _, _, h => h
  | .pair a b, _, _, hf, ⟨c1, c2, e, h1, h2⟩ => by
    have hf' : (a.flat && b.flat) = true := hf
    rw [Bool.and_eq_true] at hf'
    exact ⟨c1, c2, e, h1.flat hf'.1, h2.flat hf'.2⟩
theorem CKs.flat {w w2 : World} {ok ok2 : Nat → Prop} {t : Ty} (hf : t.flat = true) : ∀ {xs : List t.den} {cs : List Value}, CKs w ok t xs cs → CKs w2 ok2 t xs cs
  | [], _, h => h
  | _ :: _, _, ⟨c1, c2, e, h1, h2⟩ => ⟨c1, c2, e, h1.flat hf, h2.flat hf⟩
def flatOut (m : List Bool) (xs : List TV) : Bool :=
  match m, xs with
  | [], [] => true
  | false :: m, x :: xs => x.t.flat && flatOut m xs
  | true :: m, x :: xs => (match x.t with | .row _ t => t.flat | _ => false) && flatOut m xs
  | _, _ => false
def flatOuts : List (Bool × List Bool) → List (List TV) → Bool
  | [], [] => true
  | m :: ms, xs :: outs => flatOut m.2 xs && flatOuts ms outs
  | _, _ => false

/-! ### The call -/
def CV.tv (s : St) : CV → Option TV
  | .dat t x => some ⟨t, x⟩
  | .nil e t => some ⟨.row e t, ([] : List t.den)⟩
  | .own id gen => (CV.rowId s id gen).bind fun r => some ⟨.row r.e r.t, r.xs⟩
  | .sub id gen lo hi => (CV.rowId s id gen).bind fun r => some ⟨.row r.e r.t, (tk r.xs hi).drop lo⟩
  | _ => none
def tvs (s : St) : List CV → Option (List TV)
  | [] => some []
  | c :: cs => match c.tv s with
    | some x => match tvs s cs with
      | some xs => some (x :: xs)
      | none => none
    | none => none
def noSub : List CV → Bool
  | [] => true
  | .sub _ _ _ _ :: _ => false
  | .own _ _ :: _ => false
  | _ :: cs => noSub cs
def memB (l : List Nat) (i : Nat) : Bool := l.any (Nat.beq i)
/-- Cells without a row of one's own, or (where nothing that comes back lies in what came in) without the rows mv. -/
def okC (shr : Bool) (mv : List Nat) : List CV → Bool
  | [] => true
  | .sub id _ _ _ :: cs => !shr && (!memB mv id && okC shr mv cs)
  | .own id _ :: cs => !shr && (!memB mv id && okC shr mv cs)
  | _ :: cs => okC shr mv cs
structure CTab where
  c : FuncId → Option Con
  fs : List (Sig × Rel)
/-- The rows of one's own that are handed over. -/
def mvE : List PM → List AV → List Nat
  | .own _ _ :: ps, .sv false [.own id _] :: vs => id :: mvE ps vs
  | _ :: ps, _ :: vs => mvE ps vs
  | _, _ => []
def bbeq : List Bool → List Bool → Bool
  | [], [] => true
  | true :: a, true :: b => bbeq a b
  | false :: a, false :: b => bbeq a b
  | _, _ => false
def rsbeq : List (Bool × List Bool) → List (Bool × List Bool) → Bool
  | [], [] => true
  | (true, a) :: l, (true, b) :: r => bbeq a b && rsbeq l r
  | (false, a) :: l, (false, b) :: r => bbeq a b && rsbeq l r
  | _, _ => false
def Sig.beq (a b : Sig) : Bool := bbeq a.ps b.ps && rsbeq a.rs b.rs
def stripV : List Bool → List PM → Option (List PM)
  | [], ps => some ps
  | true :: bs, .val true :: ps => stripV bs ps
  | false :: bs, .val false :: ps => stripV bs ps
  | _, _ => none
def datC (xs : List TV) : List CV := xs.map fun x => .dat x.t x.x
/-- What a function literal has caught. -/
def capE (T : Tab) (fs : List (Sig × Rel)) (s : St) (mv : List Nat) : List PM → List Nat → Option (List (List TV) × List Rel)
  | [], [] => some ([], [])
  | .rd t :: ps, id :: ids => match s.bx id with
    | some b => match T.ty b.ty with
      | some t' => if t' = t then bif okC false mv b.cs then match tvs s b.cs with
          | some xs => match t.imp (datC xs) with
            | some (x, []) => match capE T fs s mv ps ids with
              | some p => some ([⟨t, x⟩] :: p.1, p.2)
              | none => none
            | _ => none
          | none => none
        else none else none
      | none => none
    | none => none
  | .rdf sg :: ps, id :: ids => match s.bx id with
    | some ⟨_, [.fnp j]⟩ => match fs[j]? with
      | some q => bif sg.beq q.1 then match capE T fs s mv ps ids with
          | some p => some (p.1, q.2 :: p.2)
          | none => none
        else none
      | none => none
    | _ => none
  | _, _ => none
def fnRel (T : Tab) (C : CTab) (s : St) (mv : List Nat) (sg : Sig) : CV → Option Rel
  | .fnp j => match C.fs[j]? with
    | some q => bif sg.beq q.1 then some q.2 else none
    | none => none
  | .fn f fst caps => match C.c f with
    | some con => bif !con.shr && rsbeq con.rs sg.rs then match stripV (fst.map (·.1) ++ sg.ps) con.ps with
        | some cps => match capE T C.fs s mv cps caps with
          | some p => some fun ins out => flatOuts con.rs out = true ∧ con.F p.2 (fst.map (·.2) ++ ins ++ p.1) (out, [])
          | none => none
        | none => none
      else none
    | none => none
  | _ => none
structure InsR where
  ins : List (List TV)
  ids : List Nat
  Rs : List Rel
/-- What is handed in; the variables by number. -/
def insE (T : Tab) (C : CTab) (shr : Bool) (mv : List Nat) (s : St) : List PM → List AV → Option InsR
  | [], [] => some ⟨[], [], []⟩
  | .val agg :: ps, .sv agg' cs :: vs => bif (agg == agg') && okC shr mv cs then
      match tvs s cs with
      | some xs => match insE T C shr mv s ps vs with
        | some p => some ⟨xs :: p.ins, p.ids, p.Rs⟩
        | none => none
      | none => none
    else none
  | .ptr ty :: ps, .sv false [.ptr id off] :: vs => bif Nat.beq off 0 then
      match s.bx id with
      | some b => bif Nat.beq b.ty ty && noSub b.cs then
          match tvs s b.cs with
          | some xs => match insE T C shr mv s ps vs with
            | some p => some ⟨xs :: p.ins, id :: p.ids, p.Rs⟩
            | none => none
          | none => none
        else none
      | none => none
    else none
  | .fn sg :: ps, .sv false [c] :: vs => match fnRel T C s mv sg c with
    | some R => match insE T C shr mv s ps vs with
      | some p => some ⟨p.ins, p.ids, R :: p.Rs⟩
      | none => none
    | none => none
  | .own e t :: ps, .sv false [.own id gen] :: vs => match CV.rowId s id gen with
    | some r => bif Nat.beq r.e e then if r.t = t then match insE T C shr mv s ps vs with
        | some p => some ⟨[⟨.row r.e r.t, r.xs⟩] :: p.ins, p.ids, p.Rs⟩
        | none => none
      else none else none
    | none => none
  | _, _ => none
def noDup : List Nat → Bool
  | [] => true
  | x :: xs => !(xs.any (Nat.beq x)) && noDup xs
/-- Rows that are gone behind the call. -/
def CV.drp (id : Nat) : CV → CV
  | .own i k => bif Nat.beq i id then .un else .own i k
  | .sub i k lo hi => bif Nat.beq i id then .un else .sub i k lo hi
  | .elt i k j off => bif Nat.beq i id then .un else .elt i k j off
  | c => c
def drpE (s : St) : List PM → List Nat → List (List TV) → St
  | .own _ _ :: ps, id :: mv, [] :: ns => drpE (s.map (CV.drp id) id) ps mv ns
  | .own _ _ :: ps, _ :: mv, _ :: ns => drpE s ps mv ns
  | .ptr _ :: ps, mv, _ :: ns => drpE s ps mv ns
  | .val _ :: ps, mv, ns => drpE s ps mv ns
  | .fn _ :: ps, mv, ns => drpE s ps mv ns
  | _, _, _ => s
/-- The variables and the rows behind the call. -/
def varsE (s : St) : List PM → List Nat → List Nat → List (List TV) → Option St
  | [], [], [], [] => some s
  | .val _ :: ps, ids, mv, ns => varsE s ps ids mv ns
  | .fn _ :: ps, ids, mv, ns => varsE s ps ids mv ns
  | .ptr ty :: ps, id :: ids, mv, xs :: ns => varsE (s.setBx id ⟨ty, xs.map fun x => .dat x.t x.x⟩) ps ids mv ns
  | .own _ _ :: ps, ids, _ :: mv, [] :: ns => varsE s ps ids mv ns
  | .own e t :: ps, ids, id :: mv, [⟨.row e' t', ys⟩] :: ns => match s.rw id with
    | some r => bif Nat.beq e e' && t'.flat then if t = t' then varsE (s.row id ⟨e', t', ys, r.gen⟩) ps ids mv ns else none else none
    | none => none
  | _, _, _, _ => none
/-- A result's cells: the row of one's own is row d. -/
def resC (d : Nat) : List Bool → List TV → Option (List CV × Option Row)
  | [], [] => some ([], none)
  | false :: m, x :: xs => match resC d m xs with
    | some p => some (.dat x.t x.x :: p.1, p.2)
    | none => none
  | true :: m, ⟨.row e t, ys⟩ :: xs => match resC d m xs with
    | some (cs, none) => some (.own d 0 :: cs, some ⟨e, t, ys, 0⟩)
    | _ => none
  | _, _ => none
def resV (d : Nat) : List (Bool × List Bool) → List (List TV) → Option (List (Bool × List CV) × Option Row)
  | [], [] => some ([], none)
  | m :: ms, xs :: outs => match resC d m.2 xs, resV d ms outs with
    | some (cs, none), some (vs, r) => some ((m.1, cs) :: vs, r)
    | some (cs, some r), some (vs, none) => some ((m.1, cs) :: vs, some r)
    | _, _ => none
  | _, _ => none
def resAV (vs : List (Bool × List CV)) : AV :=
  match vs with
  | [p] => .sv p.1 p.2
  | _ => .tup vs
/-- What the functions that are handed over do: what is asked of them may be less. -/
def relE : List Rel → (List Rel → Prop) → Prop
  | [], K => K []
  | R :: l, K => ∃ R' : Rel, (∀ ins out, R' ins out → R ins out) ∧ relE l fun Rs => K (R' :: Rs)
def resE2 (c : Con) (d : Nat) (out : List (List TV) × List (List TV)) (s2 : St) (K : AV → St → Prop) : Prop :=
  match resV d c.rs out.1 with
  | some (vs, none) => K (resAV vs) s2
  | some (vs, some r) => match s2.rw d with
    | none => K (resAV vs) (s2.row d r)
    | some _ => False
  | none => False
def callE (T : Tab) (C : CTab) (c : Con) (d : Nat) (args : List (Operand × TypeId)) (s : St) (K : AV → St → Prop) : Prop :=
  frzAll s (bif c.shr then args.flatMap fun p => (opnd T p.2 s p.1).cellsD else []) fun s1 =>
    match insE T C c.shr (mvE c.ps (args.map fun p => opnd T p.2 s1 p.1)) s1 c.ps (args.map fun p => opnd T p.2 s1 p.1) with
    | none => False
    | some p => bif noDup p.ids && (noDup (mvE c.ps (args.map fun p => opnd T p.2 s1 p.1)) && (p.Rs.isEmpty || p.ids.isEmpty)) then
        relE p.Rs fun Rs => ∃ out, c.F Rs p.ins out ∧
          bif c.shr || (flatOuts c.rs out.1 && Nat.beq p.ids.length 0) then
            match varsE (drpE s1 c.ps (mvE c.ps (args.map fun p => opnd T p.2 s1 p.1)) out.2) c.ps p.ids (mvE c.ps (args.map fun p => opnd T p.2 s1 p.1)) out.2 with
            | some s2 => resE2 c d out s2 K
            | none => False
          else False
      else False
/-- A call of a function that was handed over. -/
@[reducible] def conOf (q : Sig × Rel) : Con := ⟨0, q.1.ps.map .val, q.1.rs, false, fun _ ins out => q.2 ins out.1 ∧ out.2 = []⟩
end Go.Ab
/- Calls: that they do as told. No conditions. -/
namespace Go.Ab
open Go
inductive All2 {α β : Type} (p : α → β → Prop) : List α → List β → Prop
  | nil : All2 p [] []
  | cons {a : α} {b : β} {as : List α} {bs : List β} (h : p a b) (t : All2 p as bs) : All2 p (a :: as) (b :: bs)
section
variable {P : Program} {T : Tab} {C : CTab} {w0 w w' : World} {M : Mv} {n : Nat} {s s' : St} {a : Act} {g g' : Gh}
def rowOf : CV → Option Nat
  | .own id _ => some id
  | .sub id _ _ _ => some id
  | _ => none
theorem noSub_row {c : CV} {cs : List CV} (h : noSub (c :: cs) = true) : rowOf c = none ∧ noSub cs = true := by
  cases c <;> first | exact ⟨rfl, h⟩ | cases h
theorem okC_row {shr : Bool} {mv : List Nat} {c : CV} {cs : List CV} (h : okC shr mv (c :: cs) = true) : (∀ id, rowOf c = some id → shr = false ∧ memB mv id = false) ∧ okC shr mv cs = true := by
  cases c with
  | own id gen | sub id gen lo hi =>
    simp only [okC, Bool.and_eq_true, Bool.not_eq_true'] at h
    exact ⟨fun id' e => by cases e; exact ⟨h.1, h.2.1⟩, h.2.2⟩
  | _ => exact ⟨fun id' e => (by cases e), h⟩
theorem tv_rel (hs : Sim w0 M n s a w g) {c : CV} {x : TV} {v : Value} {ok : Nat → Prop} (h : c.tv s = some x) (hr : CR w g s c v) (hok : ∀ b, okL g.lab b → ok b) (hrow : ∀ id, rowOf c = some id → ∀ b, g.lab b = .row id → ok b) : CK w ok x.t x.x [v] := by
  cases c with
  | dat t y => cases h; exact CK.frame (fun _ _ => rfl) hok hr
  | nil e t =>
    cases h
    rw [show v = _ from hr]
    exact ⟨none, 0, rfl, le2_0, fun i x hx => by simp at hx⟩
  | own id gen =>
    obtain ⟨q, h1, h2⟩ := Option.bind_eq_some_iff.1 h
    cases h2
    obtain ⟨h0, rfl⟩ := rowId_eq h1
    obtain ⟨A, cp, e1, e2, e3, _⟩ := (hs.rw id q h0).rowC
    exact ⟨A, cp, by rw [hr.2.2, e1], e2, RowC.frame (fun _ _ => rfl) (fun b hb => hb.elim (hok b) (hrow id rfl b)) e3⟩
  | sub id gen lo hi =>
    obtain ⟨q, h1, h2⟩ := Option.bind_eq_some_iff.1 h
    cases h2
    obtain ⟨h0, rfl⟩ := rowId_eq h1
    obtain ⟨A, cp, e1, e2, e3, _⟩ := (hs.rw id q h0).rowC
    obtain ⟨f1, f2, f3⟩ := hr.2.2 q h0 rfl
    simp only [tk_eq]
    generalize hi.getD q.xs.length = hi at f1 f2 f3 ⊢
    have hl : ((q.xs.take hi).drop lo).length = hi - lo := by rw [List.length_drop, List.length_take]; omega
    refine ⟨if cp = lo then A else A.map (·.add (lo * q.t.sz)), cp - lo, ?_, ?_, ?_⟩
    · rw [f3, e1]
      simp only [subV, hl]
    · unfold Le2 at e2 ⊢
      omega
    · split
      · intro i x hx
        have hx' : ((q.xs.take hi).drop lo)[i]? = some x := hx
        have := (List.getElem?_eq_some_iff.1 hx').1
        unfold Le2 at e2
        omega
      · exact RowC.frame (fun _ _ => rfl) (fun b hb => hb.elim (hok b) (hrow id rfl b)) (e3.part lo hi)
  | _ => cases h
theorem tvs_rel (hs : Sim w0 M n s a w g) {ok : Nat → Prop} {shr : Bool} {mv : List Nat} (hok : ∀ b, okL g.lab b → ok b) (hrow : shr = false → ∀ id, memB mv id = false → ∀ b, g.lab b = .row id → ok b) : ∀ {cs : List CV} {xs : List TV} {vs : List Value}, tvs s cs = some xs → CRs w g s cs vs → okC shr mv cs = true → CellIn w ok xs vs
  | [], xs, [], h, _, _ => by cases h; exact trivial
  | c :: cs, xs, v :: vs, h, hr, hc => by
    unfold tvs at h
    split at h
    · rename_i x hx
      split at h
      · rename_i ys hys
        cases h
        obtain ⟨k1, k2⟩ := okC_row hc
        exact ⟨⟨hr.1.1, tv_rel hs hx hr.1.2 hok (fun id e b hb => hrow (k1 id e).1 id (k1 id e).2 b hb)⟩, tvs_rel hs hok hrow hys hr.2 k2⟩
      · cases h
    · cases h
theorem noSub_okC {shr : Bool} {mv : List Nat} : ∀ {cs : List CV}, noSub cs = true → okC shr mv cs = true
  | [], _ => rfl
  | c :: cs, h => by
    have h2 := (noSub_row h).2
    cases c <;> first | exact noSub_okC (cs := cs) h2 | cases h
theorem bbeq_eq : ∀ {a b : List Bool}, bbeq a b = true → a = b
  | [], [], _ => rfl
  | true :: a, true :: b, h => by rw [bbeq_eq (a := a) (b := b) h]
  | false :: a, false :: b, h => by rw [bbeq_eq (a := a) (b := b) h]
  | [], _ :: _, h => by cases h
  | true :: _, false :: _, h => by cases h
  | false :: _, true :: _, h => by cases h
  | true :: _, [], h => by cases h
  | false :: _, [], h => by cases h
theorem rsbeq_eq : ∀ {a b : List (Bool × List Bool)}, rsbeq a b = true → a = b
  | [], [], _ => rfl
  | (true, a) :: l, (true, b) :: r, h => by
    have h' : (bbeq a b && rsbeq l r) = true := h
    rw [Bool.and_eq_true] at h'
    rw [bbeq_eq h'.1, rsbeq_eq h'.2]
  | (false, a) :: l, (false, b) :: r, h => by
    have h' : (bbeq a b && rsbeq l r) = true := h
    rw [Bool.and_eq_true] at h'
    rw [bbeq_eq h'.1, rsbeq_eq h'.2]
  | [], _ :: _, h => by cases h
  | (true, _) :: _, (false, _) :: _, h => by cases h
  | (false, _) :: _, (true, _) :: _, h => by cases h
  | (true, _) :: _, [], h => by cases h
  | (false, _) :: _, [], h => by cases h
theorem sig_eq {a b : Sig} (h : a.beq b = true) : a = b := by
  unfold Sig.beq at h
  rw [Bool.and_eq_true] at h
  cases a; cases b
  simp only at h
  rw [bbeq_eq h.1, rsbeq_eq h.2]
theorem stripV_eq : ∀ {bs : List Bool} {ps rest : List PM}, stripV bs ps = some rest → ps = bs.map .val ++ rest
  | [], ps, rest, h => by cases h; rfl
  | true :: bs, .val true :: ps, rest, h => by rw [stripV_eq (bs := bs) (ps := ps) h]; rfl
  | false :: bs, .val false :: ps, rest, h => by rw [stripV_eq (bs := bs) (ps := ps) h]; rfl
  | true :: _, [], _, h => by cases h
  | false :: _, [], _, h => by cases h
  | true :: _, .val false :: _, _, h => by cases h
  | false :: _, .val true :: _, _, h => by cases h
  | true :: _, .ptr _ :: _, _, h => by cases h
  | false :: _, .ptr _ :: _, _, h => by cases h
  | true :: _, .rd _ :: _, _, h => by cases h
  | false :: _, .rd _ :: _, _, h => by cases h
  | true :: _, .fn _ :: _, _, h => by cases h
  | false :: _, .fn _ :: _, _, h => by cases h
  | true :: _, .rdf _ :: _, _, h => by cases h
  | false :: _, .rdf _ :: _, _, h => by cases h
  | true :: _, .own _ _ :: _, _, h => by cases h
  | false :: _, .own _ _ :: _, _, h => by cases h
theorem FnOk.later {A A' : Nat → Prop} {v : Value} {sg : Sig} {R : Rel} (h : FnOk P w A v sg R) (hz : w.heap.size ≤ w'.heap.size) (hb : ∀ b, b < w.heap.size → ¬ A b → w'.heap[b]? = w.heap[b]? ∧ ¬ A' b) : FnOk P w' A' v sg R := by
  obtain ⟨f, first, caps, h1, h2, h3⟩ := h
  refine ⟨f, first, caps, h1, h2, fun w2 ok args vs out k1 k2 => h3 w2 ok args vs out (Nat.le_trans hz k1) fun b hb1 hb2 => ?_⟩
  obtain ⟨k3, k4⟩ := hb b hb1 hb2
  exact (k2 b (by omega) k4).trans k3
theorem FnOk.less {A : Nat → Prop} {v : Value} {sg : Sig} {R R' : Rel} (h : FnOk P w A v sg R) (hr : ∀ ins out, R' ins out → R ins out) : FnOk P w A v sg R' := by
  obtain ⟨f, first, caps, h1, h2, h3⟩ := h
  exact ⟨f, first, caps, h1, h2, fun w2 ok args vs out k1 k2 k3 k4 k5 k6 => h3 w2 ok args vs out k1 k2 k3 k4 k5 (hr _ _ k6)⟩
/-- What is known of the functions that are called. -/
structure CTab.Ok (P : Program) (C : CTab) (w0 : World) (M : Mv) : Prop where
  c : ∀ f c, C.c f = some c → c.f = f ∧ c.Ok P ∧ Callable P f
  fs : ∀ (j : Nat) (q : Sig × Rel), C.fs[j]? = some q → FnOk P w0 M.M (M.fv j) q.1 q.2
  P : M.P = P
open Classical in
theorem CellIn.flatE : ∀ {xs : List TV} {vs : List Value} {ok : Nat → Prop}, CellIn w ok xs vs → CRs w ⟨fun b => if ok b then .old else .free, fun _ _ => undef, fun _ => 0, fun _ => 0, fun _ => 0, fun _ => undef⟩ s (datC xs) vs
  | [], [], _, _ => trivial
  | _ :: _, _ :: _, ok, h => ⟨⟨h.1.1, CK.frame (fun _ _ => rfl) (fun b hb => .inl (if_pos hb)) h.1.2⟩, CellIn.flatE h.2⟩
/-- A variable's cells, as one datum. -/
theorem imp_all {t : Ty} {x : t.den} {xs : List TV} {vs : List Value} {ok : Nat → Prop} (h : t.imp (datC xs) = some (x, [])) (hc : CellIn w ok xs vs) : CK w ok t x vs := by
  classical
  obtain ⟨es, us, e, h1, h2⟩ := imp_rel h (hc.flatE (s := ⟨fun _ => .un, fun _ => none, fun _ => none, fun _ => none⟩))
  cases us with
  | cons _ _ => exact h2.elim
  | nil =>
    rw [List.append_nil] at e
    subst e
    refine CK.frame (fun _ _ => rfl) (fun b hb => ?_) h1
    rcases hb with hb | hb
    · by_cases k : ok b
      · exact k
      · have : (if ok b then Lab.old else Lab.free) = .old := hb
        rw [if_neg k] at this; cases this
    · have : (if ok b then Lab.old else Lab.free) = .fz := hb
      split at this <;> cases this
section
variable (hs : Sim w0 M n s a w g) (hC : C.Ok P w0 M) {A : Nat → Prop} {mv : List Nat} (hA : ∀ b, A b → ∃ id, memB mv id = true ∧ g.lab b = .row id)
include hs hC hA
theorem fnp_later {j : Nat} {q : Sig × Rel} (hq : C.fs[j]? = some q) (hz : w.heap.size ≤ w'.heap.size) (hb : ∀ b, b < w.heap.size → ¬ A b → w'.heap[b]? = w.heap[b]?) {A' : Nat → Prop} (hA' : ∀ b, b < w.heap.size → A' b → A b) : FnOk P w' A' (g.fv j) q.1 q.2 := by
  rw [hs.fv]
  refine (hC.fs j q hq).later (Nat.le_trans hs.hs hz) fun b h1 h2 => ?_
  have hlo := (hs.low b h1).resolve_right h2
  have hlt : b < w.heap.size := Nat.lt_of_lt_of_le h1 hs.hs
  have hnA : ¬ A b := fun h => by
    obtain ⟨id, _, e⟩ := hA b h
    rw [e] at hlo; simp at hlo
  exact ⟨(hb b hlt hnA).trans (hs.old b hlo).2, fun h => hnA (hA' b hlt h)⟩
/-- What a function literal has caught, in a later world. -/
theorem capE_ok (hz : w.heap.size ≤ w'.heap.size) (hb : ∀ b, b < w.heap.size → ¬ A b → w'.heap[b]? = w.heap[b]?) {ok : Nat → Prop} (hok : ∀ b, b < w.heap.size → ¬ A b → ok b) : ∀ {ps : List PM} {ids : List Nat} {p : List (List TV) × List Rel}, capE T C.fs s mv ps ids = some p →
    ArgsIn P w' (fun b => b ∈ ([] ++ [] : List Nat)) ok ps p.1 (ids.map fun id => Value.pointer (some ⟨g.bb id, 0, none⟩)) [] [] p.2
  | [], [], p, h => by cases h; exact ⟨rfl, rfl, rfl⟩
  | .rd t :: ps, id :: ids, p, h => by
    unfold capE at h
    split at h
    · rename_i b hbx
      split at h
      · rename_i t' ht'
        split at h
        · rename_i htt
          subst htt
          cases hoc : okC false mv b.cs with
          | false => rw [hoc] at h; cases h
          | true =>
          rw [hoc] at h
          dsimp only [cond] at h
          split at h
          · rename_i xs hxs
            split at h
            · rename_i x hx
              split at h
              · rename_i q hq
                cases h
                obtain ⟨k1, arr, k2, k3⟩ := hs.bx id b hbx
                have hblt : g.bb id < w.heap.size := hs.lt (by rw [k1]; simp)
                have hbA : ¬ A (g.bb id) := fun h => by obtain ⟨i, _, e⟩ := hA _ h; rw [k1] at e; cases e
                let okR : Nat → Prop := fun b => okL g.lab b ∨ ∃ id, memB mv id = false ∧ g.lab b = .row id
                have hci : CellIn w okR xs arr.toList := tvs_rel (shr := false) (mv := mv) hs (fun b h => .inl h) (fun _ id hm b hb => .inr ⟨id, hm, hb⟩) hxs k3 hoc
                have hck := imp_all hx hci
                have hR : ∀ b, okR b → b < w.heap.size ∧ ¬ A b := fun b hb => by
                  rcases hb with hb | ⟨id, hm, hb⟩
                  · exact ⟨hs.lt (by rcases hb with h | h <;> rw [h] <;> simp), fun h => by
                      obtain ⟨i, _, e⟩ := hA b h
                      rcases hb with h | h <;> rw [h] at e <;> cases e⟩
                  · exact ⟨hs.lt (by rw [hb]; simp), fun h => by
                      obtain ⟨i, hi, e⟩ := hA b h
                      rw [hb] at e; cases e
                      rw [hm] at hi; cases hi⟩
                refine ⟨⟨x, _, arr.toList, rfl, rfl, hok _ hblt hbA, hck.frame (fun b h => hb b (hR b h).1 (hR b h).2) (fun b h => hok b (hR b h).1 (hR b h).2), fun j u hu => ?_⟩, capE_ok hz hb hok hq⟩
                have hadd : (⟨g.bb id, 0, none⟩ : Addr).add j = ⟨g.bb id, j, none⟩ := by unfold Addr.add; split <;> simp_all
                rw [hadd, World.cell?_of_block (w := w) (hb _ hblt hbA), cell_of_row w (g.bb id) j arr b.ty (0, 0) k2]
                simpa using hu
              · cases h
            · cases h
          · cases h
        · cases h
      · cases h
    · cases h
  | .rdf sg :: ps, id :: ids, p, h => by
    unfold capE at h
    split at h
    · rename_i ty j hbx
      split at h
      · rename_i q hq
        cases hsg : sg.beq q.1 with
        | false => rw [hsg] at h; cases h
        | true =>
        rw [hsg] at h
        dsimp only [cond] at h
        split at h
        · rename_i r hr
          cases h
          obtain ⟨k1, arr, k2, k3⟩ := hs.bx id _ hbx
          have hblt : g.bb id < w.heap.size := hs.lt (by rw [k1]; simp)
          have hbA : ¬ A (g.bb id) := fun h => by obtain ⟨i, _, e⟩ := hA _ h; rw [k1] at e; cases e
          have harr : arr.toList = [g.fv j] := by
            generalize arr.toList = l at k3
            match l, k3 with
            | [u], k3 => rw [show u = g.fv j from k3.1.2]
            | [], k3 => exact k3.elim
            | _ :: _ :: _, k3 => exact k3.2.elim
          rw [sig_eq hsg]
          refine ⟨q.2, r.2, rfl, ⟨_, g.fv j, rfl, hok _ hblt hbA, ?_, fnp_later hs hC hA hq hz hb (fun b _ h => by simp at h)⟩, capE_ok hz hb hok hr⟩
          rw [World.cell?_of_block (w := w) (hb _ hblt hbA), cell_of_row w (g.bb id) 0 arr ty (0, 0) k2]
          rw [← Array.getElem?_toList, harr]; rfl
        · cases h
      · cases h
    · cases h
  | [], _ :: _, _, h => by cases h
  | .rd _ :: _, [], _, h => by cases h
  | .rdf _ :: _, [], _, h => by cases h
  | .val _ :: _, [], _, h => by cases h
  | .val _ :: _, _ :: _, _, h => by cases h
  | .ptr _ :: _, [], _, h => by cases h
  | .ptr _ :: _, _ :: _, _, h => by cases h
  | .fn _ :: _, [], _, h => by cases h
  | .fn _ :: _, _ :: _, _, h => by cases h
  | .own _ _ :: _, [], _, h => by cases h
  | .own _ _ :: _, _ :: _, _, h => by cases h
end
theorem args_vals {ok A : Nat → Prop} {ps2 : List PM} {ins2 : List (List TV)} {vs2 : List Value} {bs ms : List Nat} {Rs : List Rel} (h2 : ArgsIn P w A ok ps2 ins2 vs2 bs ms Rs) : ∀ {args : List (Bool × List TV)} {vs : List Value}, FstIn w ok args vs → ArgsIn P w A ok ((args.map (·.1)).map .val ++ ps2) (args.map (·.2) ++ ins2) (vs ++ vs2) bs ms Rs
  | [], [], _ => h2
  | _ :: _, _ :: _, h => ⟨h.1, args_vals h2 h.2⟩
theorem fst_app {ok : Nat → Prop} {as2 : List (Bool × List TV)} {vs2 : List Value} (h2 : FstIn w ok as2 vs2) : ∀ {args : List (Bool × List TV)} {vs : List Value}, FstIn w ok args vs → FstIn w ok (args ++ as2) (vs ++ vs2)
  | [], [], _ => h2
  | _ :: _, _ :: _, h => ⟨h.1, fst_app h2 h.2⟩
theorem flatC_out {ok ok2 : Nat → Prop} {O : Option Nat} : ∀ {m : List Bool} {xs : List TV} {vs : List Value}, flatOut m xs = true → CellOut w ok O m xs vs → CellOut w ok2 O m xs vs
  | [], [], [], _, _ => trivial
  | false :: m, x :: xs, v :: vs, hf, h => by
    have hf' : (x.t.flat && flatOut m xs) = true := hf
    rw [Bool.and_eq_true] at hf'
    exact ⟨⟨h.1.1, CK.flat hf'.1 h.1.2⟩, flatC_out hf'.2 h.2⟩
  | true :: m, x :: xs, v :: vs, hf, h => by
    obtain ⟨⟨h1, h2, e, t, ys, cs, rfl, h3, h4⟩, h5⟩ := h
    have hf' : (t.flat && flatOut m xs) = true := hf
    rw [Bool.and_eq_true] at hf'
    exact ⟨⟨h1, h2, e, t, ys, cs, rfl, h3, CKs.flat hf'.1 h4⟩, flatC_out hf'.2 h5⟩
theorem flatV_out {ok ok2 : Nat → Prop} {O : Option Nat} : ∀ {ms : List (Bool × List Bool)} {outs : List (List TV)} {vs : List Value}, flatOuts ms outs = true → ValsOut w ok O ms outs vs → ValsOut w ok2 O ms outs vs
  | [], [], [], _, _ => trivial
  | m :: ms, xs :: outs, v :: vs, hf, h => by
    have hf' : (flatOut m.2 xs && flatOuts ms outs) = true := hf
    rw [Bool.and_eq_true] at hf'
    refine ⟨?_, flatV_out hf'.2 h.2⟩
    obtain ⟨agg, fl⟩ := m
    cases agg with
    | true => obtain ⟨arr, e, k⟩ := h.1; exact ⟨arr, e, flatC_out hf'.1 k⟩
    | false => exact flatC_out (vs := [v]) hf'.1 h.1
theorem flatR_out {ok ok2 : Nat → Prop} {O : Option Nat} {ms : List (Bool × List Bool)} {outs : List (List TV)} {v : Value} (hf : flatOuts ms outs = true) (h : ResOut w ok O ms outs v) : ResOut w ok2 O ms outs v := by
  unfold ResOut at *
  split at h
  · rename_i m
    obtain ⟨xs, rfl, h⟩ := h
    have := flatV_out (ms := [m]) (outs := [xs]) (vs := [v]) (ok2 := ok2) hf ⟨h, trivial⟩
    exact ⟨xs, rfl, this.1⟩
  · obtain ⟨arr, e, h⟩ := h
    exact ⟨arr, e, flatV_out hf h⟩
/-- A function that is handed over. -/
theorem fnRel_ok (hs : Sim w0 M n s a w g) (hC : C.Ok P w0 M) {A : Nat → Prop} {mv : List Nat} (hA : ∀ b, A b → ∃ id, memB mv id = true ∧ g.lab b = .row id) {sg : Sig} {c : CV} {R : Rel} {v : Value} (h : fnRel T C s mv sg c = some R) (hr : CR w g s c v) : FnOk P w A v sg R := by
  unfold fnRel at h
  split at h
  · rename_i j
    split at h
    · rename_i q hq
      cases hsg : sg.beq q.1 with
      | false => rw [hsg] at h; cases h
      | true =>
      rw [hsg] at h
      cases h
      rw [sig_eq hsg, show v = g.fv j from hr]
      exact fnp_later hs hC hA hq (Nat.le_refl _) (fun _ _ _ => rfl) (fun _ _ h => h)
    · cases h
  · rename_i f fst caps
    split at h
    · rename_i con hcon
      cases hc : !con.shr && rsbeq con.rs sg.rs with
      | false => rw [hc] at h; cases h
      | true =>
      rw [hc] at h
      rw [Bool.and_eq_true, Bool.not_eq_true'] at hc
      dsimp only [cond] at h
      split at h
      · rename_i cps hcps
        split at h
        · rename_i p hp
          cases h
          obtain ⟨hcf, hcok, hcall⟩ := hC.c f con hcon
          obtain ⟨_, fvs, hfst, rfl⟩ := hr
          refine ⟨f, _, _, rfl, hcall, fun w' ok args vs out hz hag hargs hps hokb hR => ?_⟩
          have hpsE := stripV_eq hcps
          have hfst' : FstIn w' (fun b => ok b ∨ (b < w.heap.size ∧ ¬ A b)) fst fvs := hfst.frame (fun b hb => hag b (hs.lt (by rcases hb with h | h <;> rw [h] <;> simp)) (fun hab => by
              obtain ⟨i, _, e⟩ := hA b hab
              rcases hb with h | h <;> rw [h] at e <;> cases e))
            (fun b hb => .inr ⟨hs.lt (by rcases hb with h | h <;> rw [h] <;> simp), fun hab => by
              obtain ⟨i, _, e⟩ := hA b hab
              rcases hb with h | h <;> rw [h] at e <;> cases e⟩)
          have hcap := capE_ok (A := A) hs hC hA hz hag (ok := fun b => ok b ∨ (b < w.heap.size ∧ ¬ A b)) (fun b h1 h2 => .inr ⟨h1, h2⟩) hp
          have hall := args_vals hcap (fst_app (hargs.frame (ok2 := fun b => ok b ∨ (b < w.heap.size ∧ ¬ A b)) (fun _ _ => rfl) (fun b h => .inl h)) hfst')
          have hmap : ((fst ++ args).map (·.1)).map PM.val ++ cps = con.ps := by
            rw [hpsE, List.map_append, hps]
          have hins : (fst ++ args).map (·.2) ++ p.1 = fst.map (·.2) ++ args.map (·.2) ++ p.1 := by rw [List.map_append]
          rw [hmap, hins] at hall
          have := hcok w' (fun b => ok b ∨ (b < w.heap.size ∧ ¬ A b)) _ _ [] [] p.2 (out, []) hall List.nodup_nil (fun b hb => by simp at hb) (fun b hb => by
            rcases hb with hb | hb
            · exact hokb b hb
            · omega) hR.2
          rw [hcf] at this
          have hargsE : (fvs.toArray ++ vs.toArray ++ (caps.map fun id => Value.pointer (some ⟨g.bb id, 0, none⟩)).toArray) = (fvs ++ vs ++ caps.map fun id => Value.pointer (some ⟨g.bb id, 0, none⟩)).toArray := by simp
          rw [hargsE]
          refine this.mono ?_
          rintro e w'' ⟨u, O, G, rfl, _, k1, _, k3⟩
          rw [rsbeq_eq hc.2] at k3 hR
          exact ⟨u, O, rfl, k1, flatR_out hR.1 k3⟩
        · cases h
      · cases h
    · cases h
  · cases h
/-- The blocks of the rows that are handed over. -/
def mblk (g : Gh) (s : St) (id : Nat) : List Nat := match s.rw id with | some r => (g.rv id r.gen).ownBlock.toList | none => []
theorem insE_rel (hs : Sim w0 M n s a w g) (hC : C.Ok P w0 M) {A : Nat → Prop} {mv : List Nat} {shr : Bool} {ok : Nat → Prop} (hok : ∀ b, okL g.lab b → ok b) (hrow : shr = false → ∀ id, memB mv id = false → ∀ b, g.lab b = .row id → ok b)
    : ∀ {ps : List PM} {avs : List AV} {vs : List Value} {p : InsR}, insE T C shr mv s ps avs = some p →
    All2 (fun av v => VR w g s av v) avs vs → (p.Rs = [] ∨ ∀ b, A b → ∃ id, memB mv id = true ∧ g.lab b = .row id) →
    ArgsIn P w A ok ps p.ins vs (p.ids.map g.bb) ((mvE ps avs).flatMap (mblk g s)) p.Rs ∧ ∀ id ∈ p.ids, s.bx id ≠ none
  | [], [], vs, p, h, hv, _ => by
    cases hv
    cases h
    exact ⟨⟨rfl, rfl, rfl⟩, fun id hid => by cases hid⟩
  | .val agg :: ps, av :: avs, vs, p, h, hv, hA => by
    cases hv with
    | cons hv1 hv2 =>
    rename_i v vs
    cases av with
    | sv agg' cs =>
      unfold insE at h
      cases hc : (agg == agg') && okC shr mv cs with
      | false => rw [hc] at h; cases h
      | true =>
      rw [hc] at h
      rw [Bool.and_eq_true] at hc
      obtain rfl := eq_of_beq hc.1
      dsimp only [cond] at h
      split at h
      · rename_i xs hxs
        split at h
        · rename_i q hq
          cases h
          obtain ⟨k1, k2⟩ := insE_rel hs hC hok hrow hq hv2 hA
          refine ⟨⟨?_, k1⟩, k2⟩
          cases agg with
          | true => obtain ⟨arr, e, h⟩ := hv1; exact ⟨arr, e, tvs_rel hs hok hrow hxs h hc.2⟩
          | false => exact tvs_rel hs hok hrow hxs hv1 hc.2
        · cases h
      · cases h
    | _ => cases h
  | .ptr ty :: ps, av :: avs, vs, p, h, hv, hA => by
    cases hv with
    | cons hv1 hv2 =>
    rename_i v vs
    unfold insE at h
    split at h <;> try (first | (rename_i e _; cases e; done) | (rename_i e; cases e; done))
    · rename_i ty' ps' id off avs' h1 h2
      cases h1
      cases h2
      obtain ⟨_, b1, rfl⟩ := one_inv hv1
      cases ho : Nat.beq off 0 with
      | false => rw [ho] at h; cases h
      | true =>
      rw [ho] at h
      obtain rfl := Nat.eq_of_beq_eq_true ho
      dsimp only [cond] at h
      split at h
      · rename_i b hb
        cases hc : Nat.beq b.ty ty && noSub b.cs with
        | false => rw [hc] at h; cases h
        | true =>
        rw [hc] at h
        rw [Bool.and_eq_true] at hc
        dsimp only [cond] at h
        split at h
        · rename_i xs hxs
          split at h
          · rename_i q hq
            cases h
            obtain ⟨k1, k2⟩ := insE_rel hs hC hok hrow hq hv2 hA
            obtain ⟨l1, arr, l2, l3⟩ := hs.bx id b hb
            refine ⟨⟨g.bb id, q.ids.map g.bb, rfl, rfl, ⟨arr, by rw [← Nat.eq_of_beq_eq_true hc.1]; exact l2, tvs_rel (shr := true) (mv := []) hs hok (fun h => by cases h) hxs l3 (noSub_okC hc.2)⟩, k1⟩, fun j hj => ?_⟩
            rcases List.mem_cons.1 hj with rfl | hj
            · exact b1
            · exact k2 j hj
          · cases h
        · cases h
      · cases h
    · cases h
  | .fn sg :: ps, av :: avs, vs, p, h, hv, hA => by
    cases hv with
    | cons hv1 hv2 =>
    rename_i v vs
    unfold insE at h
    split at h <;> try (first | (rename_i e _; cases e; done) | (rename_i e; cases e; done))
    · rename_i sg' ps' c avs' h1 h2
      cases h1
      cases h2
      split at h
      · rename_i R hR
        split at h
        · rename_i q hq
          cases h
          have hA' := hA.resolve_left (by simp)
          obtain ⟨k1, k2⟩ := insE_rel hs hC hok hrow hq hv2 (.inr hA')
          exact ⟨⟨R, q.Rs, rfl, fnRel_ok hs hC hA' hR (one_inv hv1).2, k1⟩, k2⟩
        · cases h
      · cases h
    · cases h
  | .own e t :: ps, av :: avs, vs, p, h, hv, hA => by
    cases hv with
    | cons hv1 hv2 =>
    rename_i v vs
    unfold insE at h
    split at h <;> try (first | (rename_i e _; cases e; done) | (rename_i e; cases e; done))
    · rename_i e' t' ps' id gen avs' h1 h2
      cases h1
      cases h2
      split at h
      · rename_i r hr
        obtain ⟨hr0, rfl⟩ := rowId_eq hr
        cases hc : Nat.beq r.e e with
        | false => rw [hc] at h; cases h
        | true =>
        rw [hc] at h
        dsimp only [cond] at h
        obtain rfl := Nat.eq_of_beq_eq_true hc
        split at h
        · rename_i ht
          subst ht
          split at h
          · rename_i q hq
            cases h
            obtain ⟨k1, k2⟩ := insE_rel hs hC hok hrow hq hv2 hA
            obtain ⟨m1, m2, cs, m3, m4⟩ := hs.rw id r hr0
            obtain ⟨n1, n2⟩ := one_inv hv1
            have hv' : v = g.rv id r.gen := n2.2.2
            refine ⟨⟨(mvE ps avs).flatMap (mblk g s), ?_, ⟨n1, r.xs, cs, rfl, by rw [hv']; exact m3, m4.frame (fun _ _ => rfl) hok⟩, k1⟩, k2⟩
            show (id :: mvE ps avs).flatMap (mblk g s) = _
            rw [List.flatMap_cons]
            congr 1
            unfold mblk
            rw [hr0, hv']
          · cases h
        · cases h
      · cases h
    · cases h
  | [], _ :: _, _, _, h, _, _ => by cases h
  | .val _ :: _, [], _, _, h, _, _ => by cases h
  | .ptr _ :: _, [], _, _, h, _, _ => by cases h
  | .fn _ :: _, [], _, _, h, _, _ => by cases h
  | .own _ _ :: _, [], _, _, h, _, _ => by cases h
  | .rd _ :: _, [], _, _, h, _, _ => by cases h
  | .rd _ :: _, _ :: _, _, _, h, _, _ => by cases h
  | .rdf _ :: _, [], _, _, h, _, _ => by cases h
  | .rdf _ :: _, _ :: _, _, _, h, _, _ => by cases h
theorem noDup_iff : ∀ {l : List Nat}, noDup l = true → l.Nodup
  | [], _ => List.nodup_nil
  | x :: xs, h => by
    unfold noDup at h
    rw [Bool.and_eq_true, Bool.not_eq_true'] at h
    refine List.nodup_cons.2 ⟨fun hx => ?_, noDup_iff h.2⟩
    have := List.any_eq_false.1 h.1 x hx
    rw [Nat.beq_refl] at this
    exact this rfl
theorem cellIn_rel {ok : Nat → Prop} (hok : ∀ b, ok b → okL g.lab b) : ∀ {xs : List TV} {vs : List Value}, CellIn w ok xs vs → CRs w g s (xs.map fun x => .dat x.t x.x) vs
  | [], [], _ => trivial
  | _ :: _, _ :: _, h => ⟨⟨h.1.1, CK.frame (fun _ _ => rfl) hok h.1.2⟩, cellIn_rel hok h.2⟩
/-! ### behind the call -/
theorem drp_rel {id : Nat} {c : CV} {v : Value} (h : CR w g s c v) : CR w g (s.map (CV.drp id) id) (CV.drp id c) v := by
  have hrw : ∀ j, j ≠ id → (s.map (CV.drp id) id).rw j = s.rw j := fun j hj => by
    show (bif Nat.beq j id then none else s.rw j) = _
    cases hb : Nat.beq j id with
    | true => exact absurd (Nat.eq_of_beq_eq_true hb) hj
    | false => rfl
  have hbx : ∀ j, s.bx j ≠ none → (s.map (CV.drp id) id).bx j ≠ none := fun j hj => by
    show (s.bx j).map _ ≠ none
    cases h : s.bx j with
    | none => exact absurd h hj
    | some b => simp
  cases c with
  | un => trivial
  | dat t x => exact h
  | nil e t => exact h
  | own i k =>
    cases hb : Nat.beq i id with
    | true => simp only [CV.drp, hb, cond_true]; trivial
    | false =>
      have hne : i ≠ id := by rintro rfl; rw [Nat.beq_refl] at hb; cases hb
      simp only [CV.drp, hb, cond_false]
      exact ⟨by rw [hrw _ hne]; exact h.1, h.2.1, h.2.2⟩
  | sub i k lo hi =>
    cases hb : Nat.beq i id with
    | true => simp only [CV.drp, hb, cond_true]; trivial
    | false =>
      have hne : i ≠ id := by rintro rfl; rw [Nat.beq_refl] at hb; cases hb
      simp only [CV.drp, hb, cond_false]
      exact ⟨by rw [hrw _ hne]; exact h.1, h.2.1, fun r' hr' => by rw [hrw _ hne] at hr'; exact h.2.2 r' hr'⟩
  | elt i k j off =>
    cases hb : Nat.beq i id with
    | true => simp only [CV.drp, hb, cond_true]; trivial
    | false =>
      have hne : i ≠ id := by rintro rfl; rw [Nat.beq_refl] at hb; cases hb
      simp only [CV.drp, hb, cond_false]
      exact ⟨by rw [hrw _ hne]; exact h.1, h.2.1, fun r' hr' => by rw [hrw _ hne] at hr'; exact h.2.2 r' hr'⟩
  | ptr i off => exact ⟨hbx _ h.1, h.2⟩
  | loc t x => exact h
  | fn f fst caps =>
    obtain ⟨h1, h2⟩ := h
    exact ⟨fun j hj => hbx _ (h1 j hj), h2⟩
  | fnp j => exact h
  | locf j => exact h
  | mp i => exact h
theorem Sim.drp (hs : Sim w0 M n s a w g) (id : Nat) : Sim w0 M n (s.map (CV.drp id) id) a w g := by
  have hf : ∀ c v, v.oneCell' = true → CR w g s c v → CR w g (s.map (CV.drp id) id) (CV.drp id c) v := fun c v _ h => drp_rel h
  refine ⟨hs.sz, hs.df, fun t => VR.map hf (hs.tm t), hs.fr, hs.old, hs.low, hs.okb, fun p hp => ⟨?_, (hs.pin p hp).2⟩, hs.hs, hs.os, hs.tape, hs.output, fun j b hb => ?_, fun j q hq => ?_, hs.mp, hs.fv⟩
  · show (s.bx p.1).map _ ≠ none
    obtain ⟨b, hb⟩ := Option.ne_none_iff_exists'.1 (hs.pin p hp).1
    rw [hb]; simp
  · have hb' : (s.bx j).map (fun b => (⟨b.ty, b.cs.map (CV.drp id)⟩ : Box)) = some b := hb
    obtain ⟨b0, h0, rfl⟩ := Option.map_eq_some_iff.1 hb'
    obtain ⟨h1, arr, h2, h3⟩ := hs.bx j b0 h0
    exact ⟨h1, arr, h2, CRs.map hf h3⟩
  · have hq' : (bif Nat.beq j id then none else s.rw j) = some q := hq
    cases hb : Nat.beq j id with
    | true => rw [hb] at hq'; cases hq'
    | false => rw [hb] at hq'; exact hs.rw j q hq'
/-- The rows that are gone are gone. -/
def DropOk (s : St) : List PM → List Nat → List (List TV) → Prop
  | .own _ _ :: ps, id :: mv, [] :: ns => s.rw id = none ∧ DropOk s ps mv ns
  | .own _ _ :: ps, _ :: mv, _ :: ns => DropOk s ps mv ns
  | .ptr _ :: ps, mv, _ :: ns => DropOk s ps mv ns
  | .val _ :: ps, mv, ns => DropOk s ps mv ns
  | .fn _ :: ps, mv, ns => DropOk s ps mv ns
  | _, _, _ => True
theorem DropOk.mono {s s' : St} : ∀ {ps : List PM} {mv : List Nat} {ns : List (List TV)}, (∀ id ∈ mv, s.rw id = none → s'.rw id = none) → DropOk s ps mv ns → DropOk s' ps mv ns
  | .own _ _ :: ps, id :: mv, [] :: ns, hm, h => ⟨hm id List.mem_cons_self h.1, DropOk.mono (ps := ps) (fun j hj => hm j (List.mem_cons_of_mem _ hj)) h.2⟩
  | .own _ _ :: ps, id :: mv, (_ :: _) :: ns, hm, h => DropOk.mono (ps := ps) (fun j hj => hm j (List.mem_cons_of_mem _ hj)) h
  | .ptr _ :: ps, mv, _ :: ns, hm, h => DropOk.mono (ps := ps) hm h
  | .val _ :: ps, mv, ns, hm, h => DropOk.mono (ps := ps) hm h
  | .fn _ :: ps, mv, ns, hm, h => DropOk.mono (ps := ps) hm h
  | [], _, _, _, _ => trivial
  | .rd _ :: _, _, _, _, _ => trivial
  | .rdf _ :: _, _, _, _, _ => trivial
  | .ptr _ :: _, _, [], _, _ => trivial
  | .own _ _ :: _, [], _, _, _ => trivial
  | .own _ _ :: _, _ :: _, [], _, _ => trivial
theorem map_rw {f : CV → CV} {id j : Nat} {r : Row} (h : (s.map f id).rw j = some r) : s.rw j = some r := by
  have h' : (bif Nat.beq j id then none else s.rw j) = some r := h
  cases hb : Nat.beq j id with
  | true => rw [hb] at h'; cases h'
  | false => rw [hb] at h'; exact h'
theorem drpE_ok : ∀ {ps : List PM} {mv : List Nat} {ns : List (List TV)} {s : St}, Sim w0 M n s a w g → Sim w0 M n (drpE s ps mv ns) a w g ∧ (∀ j r, (drpE s ps mv ns).rw j = some r → s.rw j = some r) ∧ (∀ j, j ∉ mv → (drpE s ps mv ns).rw j = s.rw j) ∧ (∀ j, s.rw j = none → (drpE s ps mv ns).rw j = none) ∧
    (∀ j, s.bx j ≠ none → (drpE s ps mv ns).bx j ≠ none) ∧ (drpE s ps mv ns).mp = s.mp ∧ DropOk (drpE s ps mv ns) ps mv ns
  | .own _ _ :: ps, id :: mv, [] :: ns, s, hs => by
    obtain ⟨k1, k2, k3, k4, k5, k6, k7⟩ := drpE_ok (ps := ps) (mv := mv) (ns := ns) (hs.drp id)
    have hn : (s.map (CV.drp id) id).rw id = none := by
      show (bif Nat.beq id id then none else s.rw id) = none
      rw [Nat.beq_refl]; rfl
    refine ⟨k1, fun j r h => map_rw (k2 j r h), fun j hj => ?_, fun j hj => k4 j ?_, fun j hj => k5 j ?_, k6, k4 id hn, k7⟩
    · have h1 : j ∉ mv := fun h => hj (List.mem_cons_of_mem _ h)
      have h2 : j ≠ id := fun h => hj (by rw [h]; exact List.mem_cons_self)
      show (drpE (s.map (CV.drp id) id) ps mv ns).rw j = _
      rw [k3 j h1]
      show (bif Nat.beq j id then none else s.rw j) = _
      cases hb : Nat.beq j id with
      | true => exact absurd (Nat.eq_of_beq_eq_true hb) h2
      | false => rfl
    · show (bif Nat.beq j id then none else s.rw j) = none
      cases Nat.beq j id with
      | true => rfl
      | false => exact hj
    · show (s.bx j).map _ ≠ none
      cases h : s.bx j with
      | none => exact absurd h hj
      | some b => simp
  | .own _ _ :: ps, id :: mv, (_ :: _) :: ns, s, hs => by
    obtain ⟨k1, k2, k3, k4, k5, k6, k7⟩ := drpE_ok (ps := ps) (mv := mv) (ns := ns) hs
    exact ⟨k1, k2, fun j hj => k3 j (fun h => hj (List.mem_cons_of_mem _ h)), k4, k5, k6, k7⟩
  | .ptr _ :: ps, mv, _ :: ns, s, hs => drpE_ok (ps := ps) hs
  | .val _ :: ps, mv, ns, s, hs => drpE_ok (ps := ps) hs
  | .fn _ :: ps, mv, ns, s, hs => drpE_ok (ps := ps) hs
  | [], mv, ns, s, hs => ⟨hs, fun _ _ h => h, fun _ _ => rfl, fun _ h => h, fun _ h => h, rfl, trivial⟩
  | .rd _ :: _, mv, ns, s, hs => ⟨hs, fun _ _ h => h, fun _ _ => rfl, fun _ h => h, fun _ h => h, rfl, trivial⟩
  | .rdf _ :: _, mv, ns, s, hs => ⟨hs, fun _ _ h => h, fun _ _ => rfl, fun _ h => h, fun _ h => h, rfl, trivial⟩
  | .ptr _ :: _, mv, [], s, hs => ⟨hs, fun _ _ h => h, fun _ _ => rfl, fun _ h => h, fun _ h => h, rfl, trivial⟩
  | .own _ _ :: _, [], ns, s, hs => ⟨hs, fun _ _ h => h, fun _ _ => rfl, fun _ h => h, fun _ h => h, rfl, trivial⟩
  | .own _ _ :: _, _ :: _, [], s, hs => ⟨hs, fun _ _ h => h, fun _ _ => rfl, fun _ h => h, fun _ h => h, rfl, trivial⟩
/-- A row that stays with its owner. -/
def Kept (w : World) (g : Gh) (s0 : St) (ok : Nat → Prop) (O : Option Nat) (G : Nat → Prop) (j : Nat) (r2 : Row) : Prop :=
  ∃ (r : Row) (ys : List r.t.den), s0.rw j = some r ∧ r2 = ⟨r.e, r.t, ys, r.gen⟩ ∧ r.t.flat = true ∧ OwnIn w ok r.e r.t [⟨.row r.e r.t, ys⟩] (g.rv j r.gen) ∧ ∀ b, (g.rv j r.gen).ownBlock = some b → some b ≠ O ∧ ¬ G b
theorem ins_val {shr : Bool} {mv : List Nat} {agg : Bool} {ps : List PM} {av : AV} {avs : List AV} {p : InsR} (h : insE T C shr mv s (.val agg :: ps) (av :: avs) = some p) : ∃ q xs, insE T C shr mv s ps avs = some q ∧ p = ⟨xs :: q.ins, q.ids, q.Rs⟩ := by
  cases av with
  | sv agg' cs =>
    unfold insE at h
    cases hc : (agg == agg') && okC shr mv cs with
    | false => rw [hc] at h; cases h
    | true =>
    rw [hc] at h
    dsimp only [cond] at h
    split at h
    · split at h
      · rename_i q hq
        cases h
        exact ⟨q, _, hq, rfl⟩
      · cases h
    · cases h
  | _ => cases h
theorem ins_ptr {shr : Bool} {mv : List Nat} {ty : TypeId} {ps : List PM} {av : AV} {avs : List AV} {p : InsR} (h : insE T C shr mv s (.ptr ty :: ps) (av :: avs) = some p) : ∃ q xs id, insE T C shr mv s ps avs = some q ∧ p = ⟨xs :: q.ins, id :: q.ids, q.Rs⟩ := by
  unfold insE at h
  split at h <;> try (first | (rename_i e _; cases e; done) | (rename_i e; cases e; done))
  · rename_i ty' ps' id off avs' h1 h2
    cases h1
    cases h2
    cases ho : Nat.beq off 0 with
    | false => rw [ho] at h; cases h
    | true =>
    rw [ho] at h
    dsimp only [cond] at h
    split at h
    · rename_i b hb
      cases hc : Nat.beq b.ty ty && noSub b.cs with
      | false => rw [hc] at h; cases h
      | true =>
      rw [hc] at h
      dsimp only [cond] at h
      split at h
      · split at h
        · rename_i q hq
          cases h
          exact ⟨q, _, _, hq, rfl⟩
        · cases h
      · cases h
    · cases h
  · cases h
theorem ins_fn {shr : Bool} {mv : List Nat} {sg : Sig} {ps : List PM} {av : AV} {avs : List AV} {p : InsR} (h : insE T C shr mv s (.fn sg :: ps) (av :: avs) = some p) : ∃ q R, insE T C shr mv s ps avs = some q ∧ p = ⟨q.ins, q.ids, R :: q.Rs⟩ := by
  unfold insE at h
  split at h <;> try (first | (rename_i e _; cases e; done) | (rename_i e; cases e; done))
  · rename_i h1 h2
    cases h1
    cases h2
    split at h
    · split at h
      · rename_i q hq
        cases h
        exact ⟨q, _, hq, rfl⟩
      · cases h
    · cases h
  · cases h
theorem ins_own {shr : Bool} {mv : List Nat} {e : TypeId} {t : Ty} {ps : List PM} {av : AV} {avs : List AV} {p : InsR} (h : insE T C shr mv s (.own e t :: ps) (av :: avs) = some p) : ∃ q xs id r, av = .sv false [.own id r.gen] ∧ s.rw id = some r ∧ r.e = e ∧ r.t = t ∧ insE T C shr mv s ps avs = some q ∧ p = ⟨xs :: q.ins, q.ids, q.Rs⟩ := by
  unfold insE at h
  split at h <;> try (first | (rename_i e _; cases e; done) | (rename_i e; cases e; done))
  · rename_i h1 h2
    cases h1
    cases h2
    split at h
    · rename_i r hr
      obtain ⟨hr0, rfl⟩ := rowId_eq hr
      cases hc : Nat.beq r.e e with
      | false => rw [hc] at h; cases h
      | true =>
      rw [hc] at h
      dsimp only [cond] at h
      split at h
      · rename_i ht
        split at h
        · rename_i q hq
          cases h
          exact ⟨q, _, _, r, rfl, hr0, Nat.eq_of_beq_eq_true hc, ht, hq, rfl⟩
        · cases h
      · cases h
    · cases h
  · cases h
theorem varsE_spec {ok : Nat → Prop} {O : Option Nat} {G : Nat → Prop} {mv0 : List Nat} {shr : Bool} {s0 : St} : ∀ {ps : List PM} {avs : List AV} {vs : List Value} {p : InsR} {ns : List (List TV)} {s s2 : St}, insE T C shr mv0 s0 ps avs = some p → All2 (fun av v => VR w g s0 av v) avs vs →
    varsE s ps p.ids (mvE ps avs) ns = some s2 → p.ids.Nodup → (mvE ps avs).Nodup → (∀ id ∈ mvE ps avs, ∀ r, s.rw id = some r → s0.rw id = some r) → DropOk s ps (mvE ps avs) ns → VarsOut w' ok O G ps ns vs (p.ids.map g.bb) →
    s2.tm = s.tm ∧ s2.mp = s.mp ∧ (∀ j, j ∉ p.ids → s2.bx j = s.bx j) ∧ (∀ j ∈ p.ids, ∃ ty xs arr, s2.bx j = some ⟨ty, xs.map fun x => .dat x.t x.x⟩ ∧ w'.heap[g.bb j]? = some (.cells arr ty (0, 0)) ∧ CellIn w' ok xs arr.toList) ∧
      (∀ j, j ∉ mvE ps avs → s2.rw j = s.rw j) ∧ (∀ j ∈ mvE ps avs, s2.rw j = none ∨ ∃ r2, s2.rw j = some r2 ∧ Kept w' g s0 ok O G j r2) := by
  intro ps
  induction ps with
  | nil =>
    intro avs vs p ns s s2 hin hv h hn hm hss hd hvo
    cases avs with
    | cons _ _ => cases hin
    | nil =>
      cases hin
      cases ns with
      | cons _ _ => cases h
      | nil =>
        cases h
        exact ⟨rfl, rfl, fun _ _ => rfl, fun j hj => (by cases hj), fun _ _ => rfl, fun j hj => (by cases hj)⟩
  | cons q ps ih =>
    intro avs vs p ns s s2 hin hv h hn hm hss hd hvo
    cases hv with
    | nil => cases q <;> cases hin
    | cons hv1 hv2 =>
    rename_i av v avs vs
    cases q with
    | val agg =>
      obtain ⟨p', xs, hin', rfl⟩ := ins_val hin
      exact ih (p := p') hin' hv2 h hn hm hss hd hvo
    | fn sg =>
      obtain ⟨p', R, hin', rfl⟩ := ins_fn hin
      exact ih (p := p') hin' hv2 h hn hm hss hd hvo
    | rd t => cases hin
    | rdf sg => cases hin
    | ptr ty =>
      obtain ⟨p', xs, id, hin', rfl⟩ := ins_ptr hin
      cases ns with
      | nil => unfold varsE at h; cases h
      | cons ys ns =>
      obtain ⟨⟨arr, h1, h2⟩, h3⟩ := hvo
      obtain ⟨hn1, hn2⟩ := List.nodup_cons.1 hn
      have h' : varsE (s.setBx id ⟨ty, ys.map fun x => .dat x.t x.x⟩) ps p'.ids (mvE ps avs) ns = some s2 := h
      obtain ⟨k1, k2, k3, k4, k5, k6⟩ := ih hin' hv2 h' hn2 hm hss (DropOk.mono (s := s) (fun _ _ h => h) (show DropOk s ps (mvE ps avs) ns from hd)) h3
      refine ⟨k1, k2, fun j hj => ?_, fun j hj => ?_, k5, k6⟩
      · rw [k3 j (fun h => hj (List.mem_cons_of_mem _ h))]
        exact fset_ne _ _ (fun e => hj (by rw [e]; exact List.mem_cons_self))
      · rcases List.mem_cons.1 hj with rfl | hj
        · refine ⟨ty, ys, arr, ?_, h1, h2⟩
          rw [k3 j hn1]
          exact fset_same _ _ _
        · exact k4 j hj
    | own e t =>
      obtain ⟨p', xs, id, r, rfl, hr, rfl, rfl, hin', rfl⟩ := ins_own hin
      obtain ⟨hm1, hm2⟩ := List.nodup_cons.1 (show (id :: mvE ps avs).Nodup from hm)
      cases ns with
      | nil => cases h
      | cons ys ns =>
      cases ys with
      | nil =>
        obtain ⟨k1, k2, k3, k4, k5, k6⟩ := ih hin' hv2 (s := s) h hn hm2 (fun j hj => hss j (List.mem_cons_of_mem _ hj)) hd.2 hvo.2
        refine ⟨k1, k2, k3, k4, fun j hj => k5 j (fun h => hj (List.mem_cons_of_mem _ h)), fun j hj => ?_⟩
        rcases List.mem_cons.1 hj with rfl | hj
        · exact .inl ((k5 j hm1).trans hd.1)
        · exact k6 j hj
      | cons y ys =>
        obtain ⟨hvo1, hvo2⟩ := hvo
        obtain ⟨hown, hO⟩ := hvo1.resolve_left (by simp)
        obtain ⟨o1, zs, cs, o2, o3, o4⟩ := hown
        cases o2
        have h' : (match s.rw id with
          | some r2 => bif Nat.beq r.e r.e && r.t.flat then if r.t = r.t then varsE (s.row id ⟨r.e, r.t, zs, r2.gen⟩) ps p'.ids (mvE ps avs) ns else none else none
          | none => none) = some s2 := h
        split at h'
        · rename_i r2 hr2
          have hr2' := hss id List.mem_cons_self r2 hr2
          rw [hr] at hr2'
          cases hr2'
          cases hfl : Nat.beq r.e r.e && r.t.flat with
          | false => rw [hfl] at h'; cases h'
          | true =>
          rw [hfl] at h'
          rw [Bool.and_eq_true] at hfl
          simp only [cond_true, if_true] at h'
          have hne : ∀ j, j ∈ mvE ps avs → j ≠ id := fun j hj e => hm1 (by rw [← e]; exact hj)
          have hrw : ∀ j, j ≠ id → (s.row id ⟨r.e, r.t, zs, r.gen⟩).rw j = s.rw j := fun j hj => fset_ne _ _ hj
          obtain ⟨k1, k2, k3, k4, k5, k6⟩ := ih hin' hv2 h' hn hm2 (fun j hj q hq => by rw [hrw j (hne j hj)] at hq; exact hss j (List.mem_cons_of_mem _ hj) q hq)
            (DropOk.mono (s := s) (fun j hj h => by rw [hrw j (hne j hj)]; exact h) (show DropOk s ps (mvE ps avs) ns from hd)) hvo2
          have hvr : v = g.rv id r.gen := (one_inv hv1).2.2.2
          refine ⟨k1, k2, k3, k4, fun j hj => ?_, fun j hj => ?_⟩
          · rw [k5 j (fun h => hj (List.mem_cons_of_mem _ h))]
            exact hrw j (fun e => hj (by rw [e]; exact List.mem_cons_self))
          · rcases List.mem_cons.1 hj with rfl | hj
            · refine .inr ⟨⟨r.e, r.t, zs, r.gen⟩, ?_, r, zs, hr, rfl, hfl.2, by rw [← hvr]; exact ⟨o1, zs, cs, rfl, o3, o4⟩, by rw [← hvr]; exact hO⟩
              rw [k5 j hm1]
              exact fset_same _ _ _
            · exact k6 j hj
        · cases h'
/-- What is known of a row that came back. -/
def OwnBack (w : World) (ok : Nat → Prop) (O : Option Nat) (r : Row) (v : Value) : Prop :=
  v.ownBlock = O ∧ v.oneCell' = true ∧ r.gen = 0 ∧ ∃ cs, w.ownsRow 0 r.e r.t.sz v r.xs.length cs ∧ CKs w ok r.t r.xs cs
def RelB (w : World) (ok : Nat → Prop) (O : Option Nat) (d : Nat) (fl : Bool) (ro : Option Row) (p : Gh → St → Prop) : Prop :=
  match ro with
  | none => ∀ g s, ((∀ b, ok b → okL g.lab b) ∨ fl = true) → p g s
  | some r => ∃ v, OwnBack w ok O r v ∧ (fl = true → r.t.flat = true) ∧ ∀ g s, ((∀ b, ok b → okL g.lab b) ∨ fl = true) → s.rw d ≠ none → g.rv d 0 = v → p g s
theorem RelB.imp {ok : Nat → Prop} {O : Option Nat} {d : Nat} {fl fl' : Bool} {ro : Option Row} {p p' : Gh → St → Prop} (h : RelB w ok O d fl ro p) (hf : fl' = true → fl = true) (hp : ∀ g s, ((∀ b, ok b → okL g.lab b) ∨ fl' = true) → p g s → p' g s) : RelB w ok O d fl' ro p' := by
  cases ro with
  | none => exact fun g s hc => hp g s hc (h g s (hc.imp id hf))
  | some r => obtain ⟨v, h1, h2, h3⟩ := h; exact ⟨v, h1, fun h => h2 (hf h), fun g s hc h4 h5 => hp g s hc (h3 g s (hc.imp id hf) h4 h5)⟩
theorem resC_rel {ok : Nat → Prop} {O : Option Nat} {d : Nat} : ∀ {m : List Bool} {xs : List TV} {vs : List Value} {p : List CV × Option Row}, resC d m xs = some p → CellOut w ok O m xs vs → RelB w ok O d (flatOut m xs) p.2 (fun g s => CRs w g s p.1 vs)
  | [], [], [], p, h, _ => by cases h; exact fun g s _ => trivial
  | false :: m, x :: xs, v :: vs, p, h, ho => by
    unfold resC at h
    split at h
    · rename_i q hq
      cases h
      have hand : (flatOut (false :: m) (x :: xs)) = (x.t.flat && flatOut m xs) := rfl
      refine (resC_rel hq ho.2).imp (fun h => ?_) (fun g s hc h => ⟨⟨ho.1.1, ?_⟩, h⟩)
      · rw [hand, Bool.and_eq_true] at h; exact h.2
      · rcases hc with hc | hc
        · exact CK.frame (fun _ _ => rfl) hc ho.1.2
        · rw [hand, Bool.and_eq_true] at hc; exact CK.flat hc.1 ho.1.2
    · cases h
  | true :: m, x :: xs, v :: vs, p, h, ho => by
    obtain ⟨⟨h1, h2, e, t, ys, cs, rfl, h3, h4⟩, h5⟩ := ho
    unfold resC at h
    split at h
    · rename_i cs' hq
      cases h
      have hand : (flatOut (true :: m) (⟨.row e t, ys⟩ :: xs)) = (t.flat && flatOut m xs) := rfl
      have hr := resC_rel hq h5
      refine ⟨v, ⟨h2, h1, rfl, cs, h3, h4⟩, fun h => ?_, fun g s hc k1 k2 => ⟨⟨h1, k1, Nat.zero_le _, k2.symm⟩, hr g s (hc.imp id fun h => ?_)⟩⟩
      · rw [hand, Bool.and_eq_true] at h; exact h.1
      · rw [hand, Bool.and_eq_true] at h; exact h.2
    · cases h
theorem resV_rel {ok : Nat → Prop} {O : Option Nat} {d : Nat} : ∀ {ms : List (Bool × List Bool)} {outs : List (List TV)} {vs : List Value} {p : List (Bool × List CV) × Option Row}, resV d ms outs = some p → ValsOut w ok O ms outs vs → RelB w ok O d (flatOuts ms outs) p.2 (fun g s => SRs w g s p.1 vs)
  | [], [], [], p, h, _ => by cases h; exact fun g s _ => trivial
  | m :: ms, xs :: outs, v :: vs, p, h, ho => by
    obtain ⟨h1, h2⟩ := ho
    have hand : flatOuts (m :: ms) (xs :: outs) = (flatOut m.2 xs && flatOuts ms outs) := rfl
    have f1 : flatOuts (m :: ms) (xs :: outs) = true → flatOut m.2 xs = true := fun h => by rw [hand, Bool.and_eq_true] at h; exact h.1
    have f2 : flatOuts (m :: ms) (xs :: outs) = true → flatOuts ms outs = true := fun h => by rw [hand, Bool.and_eq_true] at h; exact h.2
    have hval : ∀ {cs : List CV} {ro : Option Row}, resC d m.2 xs = some (cs, ro) → RelB w ok O d (flatOut m.2 xs) ro (fun g s => SR w g s m.1 cs v) := fun {cs ro} hc => by
      obtain ⟨a, fs⟩ := m
      cases a with
      | true =>
        obtain ⟨arr, rfl, h1⟩ := h1
        exact (resC_rel hc h1).imp id (fun g s _ h => ⟨arr, rfl, h⟩)
      | false => exact (resC_rel hc h1).imp id (fun g s _ h => h)
    unfold resV at h
    split at h
    · rename_i cs vs' ro hc hv
      cases h
      have k1 := hval hc
      have k2 := resV_rel hv h2
      exact k2.imp f2 (fun g s hc h => ⟨k1 g s (hc.imp id f1), h⟩)
    · rename_i cs ro vs' hc hv
      cases h
      have k1 := hval hc
      have k2 := resV_rel hv h2
      exact k1.imp f1 (fun g s hc h => ⟨h, k2 g s (hc.imp id f2)⟩)
    · cases h
theorem res_rel {ok : Nat → Prop} {O : Option Nat} {d : Nat} {ms : List (Bool × List Bool)} {outs : List (List TV)} {v : Value} {vs : List (Bool × List CV)} {ro : Option Row} (h : resV d ms outs = some (vs, ro)) (ho : ResOut w ok O ms outs v) :
    RelB w ok O d (flatOuts ms outs) ro (fun g s => VR w g s (resAV vs) v) := by
  have many : (∃ arr : Array Value, v = .tuple arr ∧ ValsOut w ok O ms outs arr.toList) → (∀ p, vs ≠ [p]) → RelB w ok O d (flatOuts ms outs) ro (fun g s => VR w g s (resAV vs) v) := fun ⟨arr, e, h2⟩ hne => by
    have hav : resAV vs = .tup vs := by
      unfold resAV
      split
      · rename_i p; exact absurd rfl (hne p)
      · rfl
    rw [hav]
    exact (resV_rel h h2).imp id (fun g s _ h => ⟨arr, e, h⟩)
  have hlen : ∀ {ms : List (Bool × List Bool)} {outs : List (List TV)} {p : List (Bool × List CV) × Option Row}, resV d ms outs = some p → p.1.length = ms.length := by
    intro ms
    induction ms with
    | nil =>
      intro outs p h
      cases outs with
      | nil => cases h; rfl
      | cons _ _ => cases h
    | cons m ms ih =>
      intro outs p h
      cases outs with
      | nil => cases h
      | cons xs outs =>
        unfold resV at h
        split at h
        · rename_i hv; cases h; have := ih hv; simp only [List.length_cons]; rw [← this]
        · rename_i hv; cases h; have := ih hv; simp only [List.length_cons]; rw [← this]
        · cases h
  have hl := hlen h
  unfold ResOut at ho
  split at ho
  · rename_i m
    obtain ⟨xs, rfl, h2⟩ := ho
    have h3 := resV_rel (w := w) (ok := ok) (O := O) (vs := [v]) h ⟨h2, trivial⟩
    simp only [List.length_singleton] at hl
    obtain ⟨p, rfl⟩ := List.length_eq_one_iff.1 hl
    exact h3.imp id (fun g s _ h => h.1)
  · rename_i hne
    refine many ho (fun p e => ?_)
    subst e
    simp only [List.length_singleton] at hl
    obtain ⟨m, rfl⟩ := List.length_eq_one_iff.1 hl.symm
    exact hne m rfl
end
end Go.Ab
/- A call, in its caller's terms. No conditions. -/
namespace Go.Ab
open Go
section
variable {P : Program} {T : Tab} {C : CTab} {w0 w w' : World} {M : Mv} {n : Nat} {s s' : St} {a : Act} {g g' : Gh}
theorem all2_map {α β γ : Type} {p : β → γ → Prop} {f : α → β} {h : α → γ} (hp : ∀ x, p (f x) (h x)) : ∀ (l : List α), All2 p (l.map f) (l.map h)
  | [] => .nil
  | x :: l => .cons (hp x) (all2_map hp l)
def RelLe : List Rel → List Rel → Prop
  | [], [] => True
  | R' :: Rs', R :: Rs => (∀ ins out, R' ins out → R ins out) ∧ RelLe Rs' Rs
  | _, _ => False
theorem relE_ok : ∀ {l : List Rel} {K : List Rel → Prop}, relE l K → ∃ Rs, RelLe Rs l ∧ K Rs
  | [], K, h => ⟨[], trivial, h⟩
  | R :: l, K, ⟨R', h1, h2⟩ => by
    obtain ⟨Rs, k1, k2⟩ := relE_ok (K := fun Rs => K (R' :: Rs)) h2
    exact ⟨R' :: Rs, ⟨h1, k1⟩, k2⟩
theorem ArgsIn.less {A ok : Nat → Prop} : ∀ {ps : List PM} {ins : List (List TV)} {vs : List Value} {bs ms : List Nat} {Rs Rs' : List Rel}, ArgsIn P w A ok ps ins vs bs ms Rs → RelLe Rs' Rs → ArgsIn P w A ok ps ins vs bs ms Rs'
  | [], [], [], bs, ms, Rs, Rs', h, hl => by
    obtain ⟨h1, h2, rfl⟩ := h
    cases Rs' with
    | nil => exact ⟨h1, h2, rfl⟩
    | cons _ _ => exact hl.elim
  | .val agg :: ps, xs :: ins, v :: vs, bs, ms, Rs, Rs', h, hl => ⟨h.1, ArgsIn.less h.2 hl⟩
  | .ptr ty :: ps, xs :: ins, v :: vs, bs, ms, Rs, Rs', h, hl => by
    obtain ⟨b, bs', h1, h2, h3, h4⟩ := h
    exact ⟨b, bs', h1, h2, h3, ArgsIn.less h4 hl⟩
  | .rd t :: ps, xs :: ins, v :: vs, bs, ms, Rs, Rs', h, hl => ⟨h.1, ArgsIn.less h.2 hl⟩
  | .fn sg :: ps, ins, v :: vs, bs, ms, Rs, Rs', h, hl => by
    obtain ⟨R, Rs1, rfl, h2, h3⟩ := h
    cases Rs' with
    | nil => exact hl.elim
    | cons R' Rs' => exact ⟨R', Rs', rfl, h2.less hl.1, ArgsIn.less h3 hl.2⟩
  | .rdf sg :: ps, ins, v :: vs, bs, ms, Rs, Rs', h, hl => by
    obtain ⟨R, Rs1, rfl, ⟨ad, fv, h1, h2, h3, h4⟩, h5⟩ := h
    cases Rs' with
    | nil => exact hl.elim
    | cons R' Rs' => exact ⟨R', Rs', rfl, ⟨ad, fv, h1, h2, h3, h4.less hl.1⟩, ArgsIn.less h5 hl.2⟩
  | .own e t :: ps, xs :: ins, v :: vs, bs, ms, Rs, Rs', h, hl => by
    obtain ⟨ms', h1, h2, h3⟩ := h
    exact ⟨ms', h1, h2, ArgsIn.less h3 hl⟩
  | [], _ :: _, _, _, _, _, _, h, _ => h.elim
  | [], [], _ :: _, _, _, _, _, h, _ => h.elim
  | .val _ :: _, [], _, _, _, _, _, h, _ => by cases h
  | .val _ :: _, _ :: _, [], _, _, _, _, h, _ => by cases h
  | .ptr _ :: _, [], _, _, _, _, _, h, _ => by cases h
  | .ptr _ :: _, _ :: _, [], _, _, _, _, h, _ => by cases h
  | .rd _ :: _, [], _, _, _, _, _, h, _ => by cases h
  | .rd _ :: _, _ :: _, [], _, _, _, _, h, _ => by cases h
  | .fn _ :: _, [], [], _, _, _, _, h, _ => by cases h
  | .fn _ :: _, _ :: _, [], _, _, _, _, h, _ => by cases h
  | .rdf _ :: _, [], [], _, _, _, _, h, _ => by cases h
  | .rdf _ :: _, _ :: _, [], _, _, _, _, h, _ => by cases h
  | .own _ _ :: _, [], _, _, _, _, _, h, _ => by cases h
  | .own _ _ :: _, _ :: _, [], _, _, _, _, h, _ => by cases h
def vlen : Value → Nat
  | .slice _ n _ => n
  | _ => 0
theorem varsE_iff : ∀ {ps : List PM} {ids mv : List Nat} {ns : List (List TV)} {s s2 : St}, varsE s ps ids mv ns = some s2 → ∀ id, s2.rw id = none ↔ s.rw id = none := by
  intro ps
  induction ps with
  | nil =>
    intro ids mv ns s s2 h id
    cases ids <;> cases mv <;> cases ns <;> first | (cases h; exact Iff.rfl) | cases h
  | cons p ps ih =>
    intro ids mv ns s s2 h id
    cases p with
    | val agg => exact ih (ids := ids) (mv := mv) (ns := ns) h id
    | fn sg => exact ih (ids := ids) (mv := mv) (ns := ns) h id
    | rd t => cases ids <;> cases mv <;> cases ns <;> cases h
    | rdf sg => cases ids <;> cases mv <;> cases ns <;> cases h
    | ptr ty =>
      cases ids with
      | nil => cases mv <;> cases ns <;> cases h
      | cons i ids =>
        cases ns with
        | nil => cases mv <;> cases h
        | cons xs ns =>
          have h' : varsE (s.setBx i ⟨ty, xs.map fun x => .dat x.t x.x⟩) ps ids mv ns = some s2 := h
          exact ih h' id
    | own e t =>
      cases mv with
      | nil => cases ids <;> cases ns <;> cases h
      | cons j mv =>
        cases ns with
        | nil => cases ids <;> cases h
        | cons xs ns =>
          cases xs with
          | nil => exact ih (ids := ids) (mv := mv) (ns := ns) h id
          | cons x xs =>
            obtain ⟨t', y⟩ := x
            cases t' with
            | row e' t' =>
              cases xs with
              | cons _ _ => cases ids <;> cases h
              | nil =>
                have h' : (match s.rw j with
                  | some r2 => bif Nat.beq e e' && t'.flat then if t = t' then varsE (s.row j ⟨e', t', y, r2.gen⟩) ps ids mv ns else none else none
                  | none => none) = some s2 := h
                split at h'
                · rename_i r2 hr2
                  cases hb : Nat.beq e e' && t'.flat with
                  | false => rw [hb] at h'; cases h'
                  | true =>
                  rw [hb] at h'
                  dsimp only [cond] at h'
                  split at h'
                  · have := ih (s := s.row j ⟨e', t', y, r2.gen⟩) h' id
                    rw [this]
                    show fset s.rw j _ id = none ↔ _
                    by_cases e : id = j
                    · subst e; rw [fset_same, hr2]; simp
                    · rw [fset_ne _ _ e]
                  · cases h'
                · cases h'
            | _ => cases xs <;> cases ids <;> cases h
theorem varsE_some {ps : List PM} {ids mv : List Nat} {ns : List (List TV)} {s s2 : St} (h : varsE s ps ids mv ns = some s2) (id : Nat) (h1 : s.rw id ≠ none) : s2.rw id ≠ none := fun e => h1 ((varsE_iff h id).1 e)
theorem varsE_back {ps : List PM} {ids mv : List Nat} {ns : List (List TV)} {s s2 : St} (h : varsE s ps ids mv ns = some s2) {id : Nat} {r : Row} (h1 : s2.rw id = some r) : s.rw id ≠ none := fun e => by rw [(varsE_iff h id).2 e] at h1; cases h1
theorem mvE_row {shr : Bool} {mv : List Nat} : ∀ {ps : List PM} {avs : List AV} {p : InsR}, insE T C shr mv s ps avs = some p → ∀ id ∈ mvE ps avs, s.rw id ≠ none
  | [], [], p, h, id, hid => by cases hid
  | .val _ :: ps, av :: avs, p, h, id, hid => by
    obtain ⟨q, xs, hq, rfl⟩ := ins_val h
    exact mvE_row hq id hid
  | .fn _ :: ps, av :: avs, p, h, id, hid => by
    obtain ⟨q, R, hq, rfl⟩ := ins_fn h
    exact mvE_row hq id hid
  | .ptr _ :: ps, av :: avs, p, h, id, hid => by
    obtain ⟨q, xs, j, hq, rfl⟩ := ins_ptr h
    exact mvE_row hq id hid
  | .own _ _ :: ps, av :: avs, p, h, id, hid => by
    obtain ⟨q, xs, j, r, rfl, hr, _, _, hq, rfl⟩ := ins_own h
    rcases List.mem_cons.1 hid with rfl | hid
    · rw [hr]; simp
    · exact mvE_row hq id hid
  | .rd _ :: _, [], p, h, _, _ => by cases h
  | .rd _ :: _, _ :: _, p, h, _, _ => by cases h
  | .rdf _ :: _, [], p, h, _, _ => by cases h
  | .rdf _ :: _, _ :: _, p, h, _, _ => by cases h
  | [], _ :: _, p, h, _, _ => by cases h
  | .val _ :: _, [], p, h, _, _ => by cases h
  | .fn _ :: _, [], p, h, _, _ => by cases h
  | .ptr _ :: _, [], p, h, _, _ => by cases h
  | .own _ _ :: _, [], p, h, _, _ => by cases h
theorem mblk_lab (hs : Sim w0 M n s a w g) {mv : List Nat} {b : Nat} (h : b ∈ mv.flatMap (mblk g s)) : ∃ id r, id ∈ mv ∧ s.rw id = some r ∧ (g.rv id r.gen).ownBlock = some b ∧ g.lab b = .row id := by
  obtain ⟨id, h1, h2⟩ := List.mem_flatMap.1 h
  unfold mblk at h2
  split at h2
  · rename_i r hr
    have h3 : (g.rv id r.gen).ownBlock = some b := by simpa using h2
    exact ⟨id, r, h1, hr, h3, (hs.rw id r hr).lab b h3⟩
  · cases h2
theorem mblk_nodup (hs : Sim w0 M n s a w g) : ∀ {mv : List Nat}, mv.Nodup → (mv.flatMap (mblk g s)).Nodup
  | [], _ => List.nodup_nil
  | id :: mv, h => by
    obtain ⟨h1, h2⟩ := List.nodup_cons.1 h
    rw [List.flatMap_cons]
    refine List.nodup_append.2 ⟨?_, mblk_nodup hs h2, fun x hx y hy e => ?_⟩
    · unfold mblk
      split
      · cases (g.rv id _).ownBlock <;> simp
      · exact List.nodup_nil
    · subst e
      obtain ⟨i1, _, k1, _, _, k2⟩ := mblk_lab hs (mv := [id]) (b := x) (by simpa using hx)
      obtain ⟨i2, _, k3, _, _, k4⟩ := mblk_lab hs hy
      rw [k2] at k4
      cases k4
      rw [List.mem_singleton.1 k1] at k3
      exact h1 k3
theorem callE_core {K : AV → St → Prop} (hs : Sim w0 M n s a w g) (hC : C.Ok P w0 M) {c : Con} {f' : FuncId} {first caps : Array Value} (hc : ∀ (ok : Nat → Prop) (vs : List Value) (ins : List (List TV)) (bs ms : List Nat) (Rs : List Rel) (out : List (List TV) × List (List TV)),
      ArgsIn P w (fun b => b ∈ bs ++ ms) ok c.ps ins vs bs ms Rs → (bs ++ ms).Nodup → (∀ b ∈ bs ++ ms, ¬ ok b) → (∀ b, ok b → b < w.heap.size) → c.F Rs ins out →
      Calls P f' (first ++ vs.toArray ++ caps) w fun e w' => ∃ v O G, e = .returned v ∧ (∀ b, G b → b ∈ ms) ∧ Post w w' bs ms O ∧ VarsOut w' (okOut w w' ok O G) O G c.ps out.2 vs bs ∧ ResOut w' (okOut w w' ok O G) O c.rs out.1 v)
    {d : Nat} {args : List (Operand × TypeId)} (h : callE T C c d args s K) :
    ∃ av s2, K av s2 ∧ Calls P f' (first ++ (args.map fun p => a.eval p.1).toArray ++ caps) w fun e w' => ∃ v g', e = .returned v ∧ Sim w0 M n s2 a w' g' ∧ VR w' g' s2 av v := by
  unfold callE at h
  obtain ⟨s1, g1, hs1, h⟩ := frzAll_ok _ hs h
  split at h
  · cases h
  rename_i p hp
  generalize hav : (args.map fun p => opnd T p.2 s1 p.1) = avs at h hp
  have hvs : All2 (fun av v => VR w g1 s1 av v) avs (args.map fun p => a.eval p.1) := by
    rw [← hav]
    exact all2_map (p := fun av v => VR w g1 s1 av v) (fun x => opnd_ok hs1 x.2 x.1) args
  generalize (args.map fun p => a.eval p.1) = vs at hvs ⊢
  generalize hmv : mvE c.ps avs = mv at h hp
  cases hnd : noDup p.ids && (noDup mv && (p.Rs.isEmpty || p.ids.isEmpty)) with
  | false => rw [hnd] at h; cases h
  | true =>
  rw [hnd] at h
  dsimp only [cond] at h
  rw [Bool.and_eq_true, Bool.and_eq_true, Bool.or_eq_true] at hnd
  obtain ⟨hnd1, hnd2, hnd3⟩ := hnd
  obtain ⟨Rs, hle, out, hF, h⟩ := relE_ok h
  cases hsh : c.shr || (flatOuts c.rs out.1 && Nat.beq p.ids.length 0) with
  | false => rw [hsh] at h; cases h
  | true =>
  rw [hsh] at h
  rw [Bool.or_eq_true, Bool.and_eq_true] at hsh
  dsimp only [cond] at h
  have hnd' := noDup_iff hnd1
  have hmvn := noDup_iff hnd2
  let ok : Nat → Prop := fun b => okL g1.lab b ∨ (c.shr = false ∧ ∃ id, memB mv id = false ∧ g1.lab b = .row id)
  have hokL : ∀ b, okL g1.lab b → ok b := fun b hb => .inl hb
  have hrowok : c.shr = false → ∀ id, memB mv id = false → ∀ b, g1.lab b = .row id → ok b := fun h1 id h2 b h3 => .inr ⟨h1, id, h2, h3⟩
  generalize hms : mv.flatMap (mblk g1 s1) = ms
  have hmsl : ∀ b ∈ ms, ∃ id r, id ∈ mv ∧ s1.rw id = some r ∧ (g1.rv id r.gen).ownBlock = some b ∧ g1.lab b = .row id := fun b hb => by rw [← hms] at hb; exact mblk_lab hs1 hb
  have hmem : ∀ {id : Nat}, id ∈ mv → memB mv id = true := fun {id} hid => by
    unfold memB
    rw [List.any_eq_true]
    exact ⟨id, hid, Nat.beq_refl id⟩
  have hmem' : ∀ {id : Nat}, memB mv id = false → id ∉ mv := fun {id} h1 h2 => by rw [hmem h2] at h1; cases h1
  have hA : p.Rs = [] ∨ ∀ b, (b ∈ p.ids.map g1.bb ++ ms) → ∃ id, memB mv id = true ∧ g1.lab b = .row id := by
    rcases hnd3 with h1 | h1
    · exact .inl (List.isEmpty_iff.1 h1)
    · refine .inr fun b hb => ?_
      rw [List.isEmpty_iff.1 h1] at hb
      obtain ⟨id, r, k1, _, _, k2⟩ := hmsl b (by simpa using hb)
      exact ⟨id, hmem k1, k2⟩
  obtain ⟨hargs0, hbxs⟩ := insE_rel (ok := ok) hs1 hC hokL hrowok hp hvs hA
  rw [hmv, hms] at hargs0
  have hargs := hargs0.less hle
  have hlab : ∀ id, id ∈ p.ids → g1.lab (g1.bb id) = .box id := fun id hid => by
    obtain ⟨b, hb⟩ := Option.ne_none_iff_exists'.1 (hbxs id hid)
    exact (hs1.bx id b hb).lab
  have hbn : (p.ids.map g1.bb).Nodup := by
    have : ∀ {l : List Nat}, l.Nodup → (∀ id ∈ l, g1.lab (g1.bb id) = .box id) → (l.map g1.bb).Nodup := by
      intro l
      induction l with
      | nil => intro _ _; exact List.nodup_nil
      | cons x l ih =>
        intro hn hl
        obtain ⟨h1, h2⟩ := List.nodup_cons.1 hn
        refine List.nodup_cons.2 ⟨fun hx => ?_, ih h2 (fun id hid => hl id (List.mem_cons_of_mem _ hid))⟩
        obtain ⟨y, hy, e⟩ := List.mem_map.1 hx
        have e1 := hl x List.mem_cons_self
        have e2 := hl y (List.mem_cons_of_mem _ hy)
        rw [← e, e2] at e1
        cases e1
        exact h1 hy
    exact this hnd' hlab
  have hbl : ∀ b ∈ p.ids.map g1.bb, ∃ id ∈ p.ids, g1.lab b = .box id := fun b hb => by
    obtain ⟨id, hid, rfl⟩ := List.mem_map.1 hb
    exact ⟨id, hid, hlab id hid⟩
  have hall : (p.ids.map g1.bb ++ ms).Nodup := List.nodup_append.2 ⟨hbn, by rw [← hms]; exact mblk_nodup hs1 hmvn, fun x hx y hy e => by
    subst e
    obtain ⟨id, _, e1⟩ := hbl x hx
    obtain ⟨_, _, _, _, _, e2⟩ := hmsl x hy
    rw [e1] at e2; cases e2⟩
  have hbok : ∀ b ∈ p.ids.map g1.bb ++ ms, ¬ ok b := fun b hb hob => by
    rcases List.mem_append.1 hb with hb | hb
    · obtain ⟨id, _, e⟩ := hbl b hb
      rcases hob with (h | h) | ⟨_, j, _, h⟩ <;> rw [e] at h <;> cases h
    · obtain ⟨id, _, hid, _, _, e⟩ := hmsl b hb
      rcases hob with (h | h) | ⟨_, j, hj, h⟩ <;> rw [e] at h <;> cases h
      exact hmem' hj hid
  have hoks : ∀ b, ok b → b < w.heap.size := fun b hob => hs1.lt (by
    rcases hob with (h | h) | ⟨_, j, _, h⟩ <;> rw [h] <;> simp)
  have hcall := hc ok _ p.ins (p.ids.map g1.bb) ms Rs out hargs hall hbok hoks hF
  -- the state without the rows that are gone
  obtain ⟨hsd, dr1, dr2, dr3, dr4, dr5, dr6⟩ := drpE_ok (ps := c.ps) (mv := mv) (ns := out.2) hs1
  generalize drpE s1 c.ps mv out.2 = sd at h hsd dr1 dr2 dr3 dr4 dr5 dr6
  -- what is known behind the call
  have key : ∀ {s2 : St} {vs' : List (Bool × List CV)} {ro : Option Row}, varsE sd c.ps p.ids mv out.2 = some s2 → resV d c.rs out.1 = some (vs', ro) → (∀ r0, ro = some r0 → s2.rw d = none) →
      ∀ e w', (∃ v O G, e = Ending.returned v ∧ (∀ b, G b → b ∈ ms) ∧ Post w w' (p.ids.map g1.bb) ms O ∧ VarsOut w' (okOut w w' ok O G) O G c.ps out.2 vs (p.ids.map g1.bb) ∧ ResOut w' (okOut w w' ok O G) O c.rs out.1 v) →
      ∃ v g', e = .returned v ∧ Sim w0 M n (match ro with | none => s2 | some r0 => s2.row d r0) a w' g' ∧ VR w' g' (match ro with | none => s2 | some r0 => s2.row d r0) (resAV vs') v := by
    intro s2 vs' ro hv2 hrv hrd e w' ⟨v, O, G, he, hG, hpost, hvars, hres⟩
    classical
    obtain ⟨t1, t1m, t3, t4, t5, t6⟩ := varsE_spec (w := w) hp hvs (by rw [hmv]; exact hv2) hnd' (by rw [hmv]; exact hmvn) (fun id _ r hr => dr1 id r hr) (by rw [hmv]; exact dr6) hvars
    rw [hmv] at t5 t6
    have hrb := res_rel hrv hres
    -- the ghost
    let lab' : Nat → Lab := fun b => if b < w'.heap.size then (if some b = O then .row d else if b < w.heap.size then (if G b then .fz else g1.lab b) else .fz) else .free
    have hOrow : ∀ b, some b = O → b < w.heap.size → ∃ id, id ∈ mv ∧ g1.lab b = .row id := fun b hb hlt => by
      rcases (hpost.own b hb.symm).1 with h1 | h1
      · omega
      · obtain ⟨id, _, k1, _, _, k2⟩ := hmsl b h1; exact ⟨id, k1, k2⟩
    have hGrow : ∀ b, G b → ∃ id, id ∈ mv ∧ g1.lab b = .row id := fun b hb => by
      obtain ⟨id, _, k1, _, _, k2⟩ := hmsl b (hG b hb); exact ⟨id, k1, k2⟩
    have hl1 : ∀ b, b < w.heap.size → some b ≠ O → ¬ G b → lab' b = g1.lab b := fun b hb hO hg => by
      show (if b < w'.heap.size then _ else _) = _
      rw [if_pos (Nat.lt_of_lt_of_le hb hpost.size), if_neg hO, if_pos hb, if_neg hg]
    have hl2 : ∀ b, b < w.heap.size → (∀ id, g1.lab b ≠ .row id) → lab' b = g1.lab b := fun b hb hr => hl1 b hb (fun e => by obtain ⟨id, _, k⟩ := hOrow b e hb; exact hr id k) (fun e => by obtain ⟨id, _, k⟩ := hGrow b e; exact hr id k)
    have hokout : (∀ b, okOut w w' ok O G b → okL lab' b) ∨ (flatOuts c.rs out.1 = true ∧ p.ids.length = 0) := by
      rcases hsh with hsh | ⟨hsh, hz⟩
      · refine .inl fun b hb => ?_
        rcases hb with (hb | ⟨hb, _⟩) | ⟨h1, h2, h3⟩
        · have hlt := hs1.lt (b := b) (by rcases hb with h | h <;> rw [h] <;> simp)
          unfold okL
          rw [hl2 b hlt (fun id => by rcases hb with h | h <;> rw [h] <;> simp)]
          exact hb
        · rw [hb] at hsh; cases hsh
        · refine .inr ?_
          show (if b < w'.heap.size then _ else _) = _
          rw [if_pos h2, if_neg h3]
          rcases h1 with h1 | h1
          · rw [if_neg (by omega)]
          · by_cases hlt : b < w.heap.size
            · rw [if_pos hlt, if_pos h1]
            · rw [if_neg hlt]
      · exact .inr ⟨hsh, Nat.eq_of_beq_eq_true hz⟩
    have finish : ∀ (g2 : Gh) (s3 : St), g2.lab = lab' → g2.bb = g1.bb → g2.mb = g1.mb → g2.fv = g1.fv → s3.tm = s2.tm → s3.bx = s2.bx → s3.mp = s2.mp →
        (∀ id, sd.rw id ≠ none → s3.rw id = s2.rw id ∧ g2.cg id = g1.cg id ∧ g2.rv id = g1.rv id) →
        (∀ id r0, s3.rw id = some r0 → (sd.rw id ≠ none ∧ s2.rw id = some r0) ∨ RowOk w' g2 id r0) → Sim w0 M n s3 a w' g2 := by
      intro g2 s3 q1 q2 q2m q2f q3 q4 q4m q5 q6
      have hheap : ∀ b, b < w.heap.size → (∀ id, g1.lab b = .box id → id ∉ p.ids) → (∀ id, g1.lab b = .row id → id ∉ mv) → w'.heap[b]? = w.heap[b]? := fun b hb hnb hnr => hpost.same b hb (fun hm => by
        obtain ⟨id, hid, e⟩ := hbl b hm
        exact hnb id e hid) (fun hm => by
        obtain ⟨id, _, k1, _, _, k2⟩ := hmsl b hm
        exact hnr id k2 k1)
      have hnb : ∀ b, (∀ id, g1.lab b ≠ .box id) → (∀ id, g1.lab b ≠ .row id) → b < w.heap.size → w'.heap[b]? = w.heap[b]? := fun b h1 h1r h2 => hheap b h2 (fun id h => absurd h (h1 id)) (fun id h => absurd h (h1r id))
      have hext : Ext sd g1 w s3 g2 w' := {
        ok := fun b hb => by
          have hlt := hs1.lt (b := b) (by rcases hb with h | h <;> rw [h] <;> simp)
          refine ⟨hnb b (fun id => by rcases hb with h | h <;> rw [h] <;> simp) (fun id => by rcases hb with h | h <;> rw [h] <;> simp) hlt, ?_⟩
          unfold okL
          rw [q1, hl2 b hlt (fun id => by rcases hb with h | h <;> rw [h] <;> simp)]
          exact hb
        rw := fun id hid => by
          obtain ⟨x1, x2, x3⟩ := q5 id hid
          refine ⟨?_, by rw [x2]; exact Nat.le_refl _, fun k _ => by rw [x3]⟩
          rw [x1]
          by_cases hm : id ∈ mv
          · rcases t6 id hm with k | ⟨r2, k, _⟩
            · obtain ⟨r, hr⟩ := Option.ne_none_iff_exists'.1 hid
              -- a row that is there was kept
              exact absurd k (varsE_some hv2 id hid)
            · rw [k]; simp
          · rw [t5 id hm]; exact hid
        row := fun id r0 r1 h1 h2 _ => by
          obtain ⟨x1, _⟩ := q5 id (by rw [h1]; simp)
          rw [x1] at h2
          by_cases hm : id ∈ mv
          · rcases t6 id hm with k | ⟨r2, k, r, ys, z1, rfl, _, ⟨_, _, cs, z4, z5, _⟩, _⟩
            · rw [k] at h2; cases h2
            · rw [k] at h2
              cases h2
              have hr0 := dr1 id r0 h1
              rw [hr0] at z1
              cases z1
              refine ⟨rfl, rfl, ?_⟩
              cases z4
              obtain ⟨_, _, cs0, o1, _⟩ := hs1.rw id r0 hr0
              have e1 : vlen (g1.rv id r0.gen) = r0.xs.length := by
                rcases o1.2 with ⟨h1, h2⟩ | ⟨g, cap, cur, h1, _⟩ <;> rw [h1]
                · exact h2.symm
                · rfl
              have e2 : vlen (g1.rv id r0.gen) = ys.length := by
                rcases z5.2 with ⟨h1, h2⟩ | ⟨g, cap, cur, h1, _⟩ <;> rw [h1]
                · exact h2.symm
                · rfl
              show ys.length = _
              omega
          · rw [t5 id hm, h1] at h2
            cases h2
            exact ⟨rfl, rfl, rfl⟩
        bx := fun id hid => by
          refine ⟨?_, by rw [q2]⟩
          rw [q4]
          by_cases hm : id ∈ p.ids
          · obtain ⟨ty, xs, arr, k1, _⟩ := t4 id hm
            rw [k1]; simp
          · rw [t3 id hm]; exact hid
        mp := fun id hid => ⟨by rw [q4m, t1m]; exact hid, by rw [q2m]⟩
        fv := q2f }
      refine hsd.upd hext (by rw [q3, t1]) (fun b hb => ?_) (fun b hb => ?_) (fun b hb => ?_) hpost.size hpost.os hpost.tape hpost.output (fun id b hb => ?_) (fun id r0 hr0 => ?_) (fun id mc hmc => ?_)
      · rw [q1]
        show (if b < w'.heap.size then _ else _) = _
        rw [if_neg (by omega)]
      · rw [q1] at hb
        have hlt' : b < w'.heap.size := by
          rcases Nat.lt_or_ge b w'.heap.size with h' | h'
          · exact h'
          · have e : lab' b = .free := if_neg (by omega)
            rw [e] at hb; simp at hb
        have hO : some b ≠ O := fun e => by
          have : lab' b = .row d := by show (if b < w'.heap.size then _ else _) = _; rw [if_pos hlt', if_pos e]
          rw [this] at hb; simp at hb
        have hlt : b < w.heap.size := by
          rcases Nat.lt_or_ge b w.heap.size with h' | h'
          · exact h'
          · have e : lab' b = .fz := by show (if b < w'.heap.size then _ else _) = _; rw [if_pos hlt', if_neg hO, if_neg (by omega)]
            rw [e] at hb; simp at hb
        have hgn : ¬ G b := fun e => by
          have : lab' b = .fz := by show (if b < w'.heap.size then _ else _) = _; rw [if_pos hlt', if_neg hO, if_pos hlt, if_pos e]
          rw [this] at hb; simp at hb
        rw [hl1 b hlt hO hgn] at hb
        exact ⟨by rw [q1]; exact hl1 b hlt hO hgn, hnb b (fun id => by rcases hb with h | h <;> rw [h] <;> simp) (fun id => by rcases hb with h | h <;> rw [h] <;> simp) hlt⟩
      · have hlt := hs1.lt (b := b) (by rcases hb with h | h <;> rw [h] <;> simp)
        rw [q1, hl2 b hlt (fun id => by rcases hb with h | h <;> rw [h] <;> simp)]
        exact hb
      · rw [q4] at hb
        by_cases hm : id ∈ p.ids
        · obtain ⟨ty, xs, arr, k1, k2, k3⟩ := t4 id hm
          rw [k1] at hb
          cases hb
          have hlt := hs1.lt (b := g1.bb id) (by rw [hlab id hm]; simp)
          refine ⟨by rw [q1, q2, hl2 _ hlt (fun j => by rw [hlab id hm]; simp)]; exact hlab id hm, arr, by rw [q2]; exact k2, ?_⟩
          rcases hokout with hok' | ⟨_, hz⟩
          · exact cellIn_rel (fun b hb => by rw [q1]; exact hok' b hb) k3
          · rw [List.eq_nil_of_length_eq_zero hz] at hm; cases hm
        · rw [t3 id hm] at hb
          have h4 := hsd.bx id b hb
          have hlt := hs1.lt (b := g1.bb id) (by rw [h4.lab]; simp)
          refine h4.keep hext ⟨hheap _ hlt (fun j hj => ?_) (fun j hj => ?_), by rw [q1, hl2 _ hlt (fun j => by rw [h4.lab]; simp)]; exact h4.lab⟩ (by rw [q2])
          · rw [h4.lab] at hj
            cases hj
            exact hm
          · rw [h4.lab] at hj; cases hj
      · rcases q6 id r0 hr0 with ⟨h50, h5⟩ | h5
        · obtain ⟨x1, x2, x3⟩ := q5 id h50
          by_cases hm : id ∈ mv
          · rcases t6 id hm with k | ⟨r2, k, r, ys, z1, rfl, zf, ⟨_, zs, cs, z4, z5, z6⟩, z7⟩
            · rw [k] at h5; cases h5
            · rw [k] at h5
              cases h5
              cases z4
              have hro := hs1.rw id r z1
              refine ⟨by rw [x2]; exact hro.gen, fun b hb => ?_, cs, by rw [x3]; exact z5, CKs.flat zf z6⟩
              have hb' : (g1.rv id r.gen).ownBlock = some b := by rw [← x3]; exact hb
              have hlb := hro.lab b hb'
              rw [q1, hl1 b (hs1.lt (by rw [hlb]; simp)) (z7 b hb').1 (z7 b hb').2]
              exact hlb
          · rw [t5 id hm] at h5
            refine (hsd.rw id r0 h5).keep hext.ok (fun b hb => ?_) x2 (by rw [x3])
            have hlt := hs1.lt (b := b) (by rw [hb]; simp)
            have hO : some b ≠ O := fun e => by
              obtain ⟨j, k1, k2⟩ := hOrow b e hlt
              rw [hb] at k2; cases k2
              exact hm k1
            have hgn : ¬ G b := fun e => by
              obtain ⟨j, k1, k2⟩ := hGrow b e
              rw [hb] at k2; cases k2
              exact hm k1
            exact ⟨hheap b hlt (fun j hj => by rw [hb] at hj; cases hj) (fun j hj => by rw [hb] at hj; cases hj; exact hm), by rw [q1, hl1 b hlt hO hgn]; exact hb⟩
        · exact h5
      · rw [q4m, t1m, dr5] at hmc
        have h4 := hs1.mp id mc hmc
        have hlt := hs1.lt (b := g1.mb id) (by rw [h4.lab]; simp)
        exact h4.keep ⟨hnb _ (fun j => by rw [h4.lab]; simp) (fun j => by rw [h4.lab]; simp) hlt, by rw [q1, hl2 _ hlt (fun j => by rw [h4.lab]; simp)]; exact h4.lab⟩ (by rw [q2m])
    cases ro with
    | none =>
      let g2 : Gh := { g1 with lab := lab' }
      have hsim := finish g2 s2 rfl rfl rfl rfl rfl rfl rfl (fun id hid => ⟨rfl, rfl, rfl⟩) (fun id r0 hr0 => .inl ⟨varsE_back hv2 hr0, hr0⟩)
      refine ⟨v, g2, he, hsim, hrb g2 s2 ?_⟩
      rcases hokout with h | h
      · exact .inl h
      · exact .inr h.1
    | some r0 =>
      obtain ⟨v0, ⟨o1, o2, o3, cs, o4, o5⟩, hfl, hrel⟩ := hrb
      have hd0 := hrd r0 rfl
      let g2 : Gh := { g1 with lab := lab', rv := fset g1.rv d (fun _ => v0), cg := fset g1.cg d 0 }
      have hd1 : sd.rw d = none := by
        cases hq : sd.rw d with
        | none => rfl
        | some r => exact absurd hd0 (varsE_some hv2 d (by rw [hq]; simp))
      have hcond : (∀ b, okOut w w' ok O G b → okL lab' b) ∨ flatOuts c.rs out.1 = true := hokout.imp id (fun h => h.1)
      have hsim := finish g2 (s2.row d r0) rfl rfl rfl rfl rfl rfl rfl (fun id hid => by
          have hne : id ≠ d := by rintro rfl; exact hid hd1
          exact ⟨fset_ne _ _ hne, fset_ne _ _ hne, fset_ne _ _ hne⟩)
        (fun id q hq => by
          have hq' : fset s2.rw d (some r0) id = some q := hq
          by_cases hne : id = d
          · subst hne
            rw [fset_same] at hq'
            cases hq'
            refine .inr ⟨by show r0.gen = fset g1.cg id 0 id; rw [fset_same]; exact o3, fun b hb => ?_, cs, ?_, ?_⟩
            · have hrvd : g2.rv id r0.gen = v0 := by show fset g1.rv id _ id _ = _; rw [fset_same]
              rw [hrvd, o1] at hb
              obtain ⟨b1, b2⟩ := hpost.own b hb
              show (if b < w'.heap.size then _ else _) = _
              rw [if_pos b2, if_pos hb.symm]
            · show w'.ownsRow 0 r0.e r0.t.sz (fset g1.rv id _ id _) _ cs
              rw [fset_same]
              exact o4
            · rcases hcond with h | h
              · exact o5.frame (fun _ _ => rfl) h
              · exact o5.flat (hfl h)
          · rw [fset_ne _ _ hne] at hq'
            exact .inl ⟨varsE_back hv2 hq', hq'⟩)
      exact ⟨v, g2, he, hsim, hrel g2 (s2.row d r0) hcond (by show fset s2.rw d _ d ≠ none; rw [fset_same]; simp) (by show fset g1.rv d _ d _ = _; rw [fset_same])⟩
  split at h
  · rename_i s2 hv2
    unfold resE2 at h
    split at h
    · rename_i vs' hrv
      exact ⟨_, _, h, hcall.mono fun e w' hh => key hv2 hrv (fun _ e => by cases e) e w' hh⟩
    · rename_i vs' r0 hrv
      split at h
      · rename_i hrd
        exact ⟨_, _, h, hcall.mono fun e w' hh => key hv2 hrv (fun _ e => by cases e; exact hrd) e w' hh⟩
      · cases h
    · cases h
  · cases h
theorem callE_ok {K : AV → St → Prop} (hs : Sim w0 M n s a w g) (hC : C.Ok P w0 M) {c : Con} (hc : c.Ok P) {d : Nat} {args : List (Operand × TypeId)} (h : callE T C c d args s K) :
    ∃ av s2, K av s2 ∧ Calls P c.f (args.map fun p => a.eval p.1).toArray w fun e w' => ∃ v g', e = .returned v ∧ Sim w0 M n s2 a w' g' ∧ VR w' g' s2 av v := by
  have := callE_core (first := #[]) (caps := #[]) (f' := c.f) hs hC (fun ok vs ins bs ms Rs out h1 h2 h3 h4 h5 => by simpa using hc w ok vs ins bs ms Rs out h1 h2 h3 h4 h5) h
  simpa using this
theorem args_fst {A ok : Nat → Prop} : ∀ {bs : List Bool} {ins : List (List TV)} {vs : List Value} {bk ms : List Nat} {Rs : List Rel}, ArgsIn P w A ok (bs.map .val) ins vs bk ms Rs → bk = [] ∧ ms = [] ∧ Rs = [] ∧ ∃ args, FstIn w ok args vs ∧ args.map (·.1) = bs ∧ args.map (·.2) = ins
  | [], [], [], bk, ms, Rs, h => ⟨h.1, h.2.1, h.2.2, [], trivial, rfl, rfl⟩
  | b :: bs, xs :: ins, v :: vs, bk, ms, Rs, h => by
    obtain ⟨h1, h2, h3, args, h4, h5, h6⟩ := args_fst (bs := bs) h.2
    exact ⟨h1, h2, h3, (b, xs) :: args, ⟨h.1, h4⟩, by rw [List.map_cons, h5], by rw [List.map_cons, h6]⟩
  | [], _ :: _, _, _, _, _, h => h.elim
  | [], [], _ :: _, _, _, _, h => h.elim
  | _ :: _, [], _, _, _, _, h => by cases h
  | _ :: _, _ :: _, [], _, _, _, h => by cases h
/-- A call of a function that was handed over. -/
theorem callF_ok {K : AV → St → Prop} (hs : Sim w0 M n s a w g) (hC : C.Ok P w0 M) {j : Nat} {q : Sig × Rel} (hq : C.fs[j]? = some q) {d : Nat} {args : List (Operand × TypeId)} (h : callE T C (conOf q) d args s K) :
    ∃ f first caps, g.fv j = .func (.func f) first caps ∧ Callable P f ∧ ∃ av s2, K av s2 ∧ Calls P f (first ++ (args.map fun p => a.eval p.1).toArray ++ caps) w fun e w' => ∃ v g', e = .returned v ∧ Sim w0 M n s2 a w' g' ∧ VR w' g' s2 av v := by
  obtain ⟨f, first, caps, h1, h2, h3⟩ := fnp_later (A := fun _ => False) (mv := []) hs hC (fun b h => h.elim) hq (Nat.le_refl _) (fun _ _ _ => rfl) (A' := fun _ => False) (fun _ _ h => h)
  refine ⟨f, first, caps, h1, h2, callE_core hs hC (fun ok vs ins bs ms Rs out k1 k2 k3 k4 k5 => ?_) h⟩
  obtain ⟨rfl, rfl, rfl, args', l1, l2, l3⟩ := args_fst k1
  refine (h3 w ok args' vs out.1 (Nat.le_refl _) (fun _ _ _ => rfl) l1 l2 k4 (by rw [l3]; exact k5.1)).mono ?_
  rintro e w' ⟨u, O, rfl, m1, m2⟩
  refine ⟨u, O, noG, rfl, (fun b h => h.elim), m1, ?_, m2⟩
  rw [k5.2]
  have : ∀ {bs : List Bool} {vs : List Value}, vs.length = bs.length → VarsOut w' (okOut w w' ok O noG) O noG (bs.map .val) [] vs [] := by
    intro bs
    induction bs with
    | nil => intro vs _; exact ⟨rfl, rfl⟩
    | cons b bs ih =>
      intro vs hl
      cases vs with
      | nil => cases hl
      | cons v vs => exact ih (by simpa using hl)
  refine this ?_
  have hlen : ∀ {as : List (Bool × List TV)} {vs : List Value}, FstIn w ok as vs → vs.length = as.length := by
    intro as
    induction as with
    | nil => intro vs h; cases vs with | nil => rfl | cons _ _ => exact h.elim
    | cons a as ih => intro vs h; cases vs with | nil => exact h.elim | cons v vs => rw [List.length_cons, List.length_cons, ih h.2]
  rw [hlen l1, ← l2, List.length_map]
end
end Go.Ab
/- Maps of strings to ints: made, written, read. Closures put together. Rows cleared. No conditions. -/
namespace Go.Ab
open Go Go.Maps
def mkMapE (T : Tab) (d : Nat) (ty : TypeId) (s : St) (K : AV → St → Prop) : Prop :=
  match T.get ty with
  | some ti => match ti.d with
    | .map k e => match s.mp d with
      | none => K (sv1 (.mp d)) { s with mp := fset s.mp d (some ⟨k, e, []⟩) }
      | some _ => False
    | _ => False
  | none => False
/-- A map's type: strings to ints. -/
def isSI (T : Tab) (ty k e : TypeId) : Bool :=
  match T.get ty, T.get k, T.get e with
  | some ti, some ki, some ei => match ti.d, ki.d, ei.d, ei.zero with
    | .map k' e', .str, .int .i64, .int .i64 z => Nat.beq k' k && (Nat.beq e' e && decide (z = 0))
    | _, _, _, _ => false
  | _, _, _ => false
def putMapE (T : Tab) (t : TypeId) (m x v : AV) (s : St) (K : St → Prop) : Prop :=
  match m, x, v with
  | .sv false [.mp id], .sv false [.dat .str b], .sv false [.dat (.int .i64) i] => match s.mp id with
    | some c => bif isSI T t c.K c.E then
        Need (c.c.length < 9223372036854775807) (Need (b.size ≤ 9223372036854775807) (Need (-9223372036854775808 ≤ i) (Need (i ≤ 9223372036854775807)
          (K { s with mp := fset s.mp id (some ⟨c.K, c.E, (b, i) :: c.c⟩) }))))
      else False
    | none => False
  | _, _, _ => False
def lookE (T : Tab) (t : TypeId) (m x : AV) (s : St) (K : AV → Prop) : Prop :=
  match m, x with
  | .sv false [.mp id], .sv false [.dat .str b] => match s.mp id with
    | some c => bif isSI T t c.K c.E then Need (b.size ≤ 9223372036854775807) (K (int1 .i64 (Pw.G.mapGet c.c b))) else False
    | none => False
  | _, _ => False
section
variable {P : Program} {T : Tab} {C : CTab} {w0 w w' : World} {M : Mv} {n : Nat} {s s' : St} {a : Act} {g g' : Gh}
theorem isSI_ok (hT : T.Good P) {ty k e : TypeId} (h : isSI T ty k e = true) : P.underlying ty = some (.map k e) ∧ P.underlying k = some .string ∧ P.underlying e = some (.int .i64) ∧ ∀ w, (zeroValue e).run P w = .ok (.int .i64 0) w := by
  unfold isSI at h
  split at h
  · rename_i ti ki ei h1 h2 h3
    split at h
    · rename_i k' e' z g1 g2 g3 g4
      rw [Bool.and_eq_true, Bool.and_eq_true] at h
      obtain ⟨d1, u1, v1⟩ := (hT.get h1).under
      obtain ⟨d2, u2, v2⟩ := (hT.get h2).under
      obtain ⟨d3, u3, v3⟩ := (hT.get h3).under
      rw [g1] at v1; rw [g2] at v2; rw [g3] at v3
      rw [TD.of_map v1] at u1
      rw [TD.of_str v2] at u2
      rw [TD.of_int v3] at u3
      obtain rfl := Nat.eq_of_beq_eq_true h.1
      obtain rfl := Nat.eq_of_beq_eq_true h.2.1
      have hz := of_decide_eq_true h.2.2
      refine ⟨u1, u2, u3, fun w => ?_⟩
      have := run_zero (w := w) (hT.get h3)
      rw [g4, hz] at this
      exact this
    · cases h
  · cases h
theorem mkMapE_ok {K : AV → St → Prop} (hs : Sim w0 M n s a w g) (hP : M.P = P) {d : Nat} {ty : TypeId} (h : mkMapE T d ty s K) : ∃ av s', K av s' ∧ Does P w0 M n a w (Instr.makeMap ty none) av s' := by
  unfold mkMapE at h
  split at h
  · split at h
    · rename_i k e _
      split at h
      · rename_i hd
        refine ⟨_, _, h, ?_⟩
        have hg := World.grownBy_alloc w (.map #[] 0) none
        let g' : Gh := { g with lab := fset g.lab w.heap.size (.mp d), mb := fset g.mb d w.heap.size }
        let s' : St := { s with mp := fset s.mp d (some ⟨k, e, []⟩) }
        have hmb : g'.mb d = w.heap.size := fset_same _ _ _
        have he : Ext s g w s' g' (w.alloc (.map #[] 0)) := ext_new hs hg (g' := g') rfl (fun _ _ => ⟨rfl, rfl, rfl⟩) (fun _ _ => ⟨rfl, rfl⟩) (fun j hj => by
          have hne : j ≠ d := by rintro rfl; exact hj hd
          exact ⟨fset_ne _ _ hne, fset_ne _ _ hne⟩)
        refine ⟨_, _, g', rfl, hs.new hg (by simp) (L := .mp d) (by simp) rfl he rfl (fun j b hb => .inl ⟨hb, rfl⟩) (fun j r hr => .inl ⟨hr, rfl, rfl⟩) (fun j c hc => ?_), sv1_ok rfl ⟨?_, by rw [hmb]⟩⟩
        · by_cases hj : j = d
          · subst hj
            have hc' : fset s.mp j (some ⟨k, e, []⟩) j = some c := hc
            rw [fset_same] at hc'
            cases hc'
            refine .inr ⟨by rw [hmb]; exact fset_same _ _ _, ?_⟩
            rw [hmb]
            exact World.ownsMap_made w M.P k _
          · have hc' : fset s.mp d (some ⟨k, e, []⟩) j = some c := hc
            rw [fset_ne _ _ hj] at hc'
            exact .inl ⟨hc', fset_ne _ _ hj⟩
        · show fset s.mp d _ d ≠ none
          rw [fset_same]; simp
      · exact h.elim
    · exact h.elim
  · exact h.elim
theorem wf_i64 {i : Int} (h1 : -9223372036854775808 ≤ i) (h2 : i ≤ 9223372036854775807) : (Lit.int .i64 i).wf = true := by
  have e1 : (IntKind.i64).min = -9223372036854775808 := by decide
  have e2 : (IntKind.i64).max = 9223372036854775807 := by decide
  simp only [Lit.wf, e1, e2, decide_eq_true h1, decide_eq_true h2, Bool.and_self]
theorem lookE_ok {K : AV → Prop} (hT : T.Good P) (hs : Sim w0 M n s a w g) (hP : M.P = P) {t : TypeId} {m x : AV} {vm vx : Value} (h : lookE T t m x s K) (hm : VR w g s m vm) (hx : VR w g s x vx) : ∃ av v, K av ∧ VR w g s av v ∧ (Instr.lookup t vm vx false).run P w = .ok v w := by
  unfold lookE at h
  split at h
  · rename_i id b
    split at h
    · rename_i c hc
      cases hsi : isSI T t c.K c.E with
      | false => rw [hsi] at h; exact h.elim
      | true =>
      rw [hsi] at h
      obtain ⟨h1, h⟩ := h
      obtain ⟨u1, u2, u3, u4⟩ := isSI_ok hT hsi
      obtain ⟨_, _, rfl⟩ := one_inv hm
      obtain rfl := VR.str hx
      have hmp := (hs.mp id c hc).is
      rw [hP] at hmp
      obtain ⟨q, hrun, hat, _⟩ := World.ownsMap.lookup_int hmp (string_keyed u2) u1 u3 (u4 w) (Go.WideMaps.keyOf_string_mk u2 (s := b) (by unfold maxLen; omega))
      rw [mapD_get] at hat
      injection hat with hat
      injection hat with _ hat
      exact ⟨_, _, h, int1_ok _ _, by rw [hrun, hat]⟩
    · exact h.elim
  · exact h.elim
theorem putMapE_ok {K : St → Prop} (hT : T.Good P) (hs : Sim w0 M n s a w g) (hP : M.P = P) {t : TypeId} {m x v : AV} {vm vx vv : Value} (h : putMapE T t m x v s K) (hm : VR w g s m vm) (hx : VR w g s x vx) (hv : VR w g s v vv) :
    ∃ s' w' g', K s' ∧ (Instr.mapUpdate t vm vx vv).run P w = .ok () w' ∧ Sim w0 M n s' a w' g' := by
  unfold putMapE at h
  split at h
  · rename_i id b i
    split at h
    · rename_i c hc
      cases hsi : isSI T t c.K c.E with
      | false => rw [hsi] at h; exact h.elim
      | true =>
      rw [hsi] at h
      obtain ⟨h1, h2, h3, h4, h⟩ := h
      obtain ⟨u1, u2, u3, u4⟩ := isSI_ok hT hsi
      obtain ⟨_, _, rfl⟩ := one_inv hm
      obtain rfl := VR.str hx
      obtain rfl := VR.int hv
      have hmo := hs.mp id c hc
      have hmp := hmo.is
      rw [hP] at hmp
      obtain ⟨w', hrun, r1, r2⟩ := World.ownsMap.update hmp (string_keyed u2) u1 (by unfold maxLen; omega) (Go.WideMaps.keyOf_string_mk u2 (s := b) (by unfold maxLen; omega)) (plainElem_int (H := Unit) u3 (wf_i64 h3 h4))
      refine ⟨_, w', g, h, hrun, ?_⟩
      have hsz : w'.heap.size = w.heap.size := by
        obtain ⟨es, clock, hb, F, hcl, _⟩ := hmp
        obtain ⟨es', clock', hrun', _⟩ := Maps.fit_store (H := Unit) (R' := plainElem P c.E) (string_keyed u2) u1 hb F (Nat.lt_of_le_of_lt hcl (by unfold maxLen; omega)) (fun _ _ _ _ hz => hz) (Go.WideMaps.keyOf_string_mk u2 (s := b) (by unfold maxLen; omega)) (plainElem_int (H := Unit) u3 (wf_i64 h3 h4))
        rw [hrun] at hrun'
        injection hrun' with _ hw
        rw [hw]
        simp [ChangeMaps.setBlock]
      have hrow : ∀ b, some (g.mb id) = some b → g.lab b = Lab.mp id := fun b e => by cases e; exact hmo.lab
      have hL0 : ¬ (Lab.mp id = .old ∨ Lab.mp id = .hid ∨ Lab.mp id = .fz ∨ Lab.mp id = .free) := by simp
      have he : Ext s g w { s with mp := fset s.mp id (some ⟨c.K, c.E, (b, i) :: c.c⟩) } g w' := ext_wr (g' := g) (L := .fz) hs r2 hrow hL0 (.inl ⟨hsz, rfl⟩) (fun j hj => ⟨hj, Nat.le_refl _, fun _ _ => rfl⟩)
        (fun j r r' e1 e2 _ => by rw [show s.rw j = some r' from e2] at e1; cases e1; exact ⟨rfl, rfl, rfl⟩) (fun j hj => ⟨hj, rfl⟩) (fun j hj => ⟨by
          show fset s.mp id _ j ≠ none
          by_cases e : j = id
          · subst e; rw [fset_same]; simp
          · rw [fset_ne _ _ e]; exact hj, rfl⟩)
      refine hs.wr r2 hrow hL0 (L := .fz) (by simp) (.inl ⟨hsz, rfl⟩) he rfl (fun j b hb => .inl ⟨hb, by simp, rfl⟩) (fun j r hr => .inl ⟨hr, by simp, rfl, rfl⟩) (fun j mc hmc => ?_)
      have hmc' : fset s.mp id (some ⟨c.K, c.E, (b, i) :: c.c⟩) j = some mc := hmc
      by_cases e : j = id
      · subst e
        rw [fset_same] at hmc'
        cases hmc'
        refine .inr ⟨hmo.lab, ?_⟩
        rw [hP]
        exact r1
      · rw [fset_ne _ _ e] at hmc'
        exact .inl ⟨hmc', by simp; exact e, rfl⟩
    · exact h.elim
  · exact h.elim
end
end Go.Ab
/- 'clear' of the end of a row of one's own. No conditions. -/
namespace Go.Ab
open Go
def clearAt (T : Tab) (t : TypeId) (id gen lo : Nat) (s : St) (K : AV → St → Prop) : Prop :=
  match CV.rowId s id gen, T.get t with
  | some ⟨re, rt, xs, rg⟩, some ti => match ti.d with
    | .slice e => match T.get e with
      | some ei => match ei.ty with
        | some t' => if t' = rt then Need (lo ≤ xs.length) (K .un (s.row id ⟨re, rt, xs.take lo ++ List.replicate (xs.length - lo) rt.zero, rg⟩)) else False
        | none => False
      | none => False
    | _ => False
  | _, _ => False
def clearE (T : Tab) (t : TypeId) (x : AV) (s : St) (K : AV → St → Prop) : Prop :=
  match x with
  | .sv false [.own id gen] => clearAt T t id gen 0 s K
  | .sv false [.sub id gen lo none] => clearAt T t id gen lo s K
  | _ => False
section
variable {P : Program} {T : Tab} {C : CTab} {w0 w w' : World} {M : Mv} {n : Nat} {s s' : St} {a : Act} {g g' : Gh}
theorem CKs.takeD {ok : Nat → Prop} {t : Ty} : ∀ (k : Nat) {xs : List t.den} {cs : List Value}, CKs w ok t xs cs → CKs w ok t (xs.take k) (cs.take (k * t.sz))
  | 0, xs, cs, h => by simp only [Nat.zero_mul, List.take_zero]; exact rfl
  | k + 1, [], cs, h => by rw [show cs = [] from h]; simp only [List.take_nil]; exact rfl
  | k + 1, x :: xs, cs, ⟨c1, c2, e, h1, h2⟩ => by
    have hl := h1.len
    have e2 : (k + 1) * t.sz = c1.length + k * t.sz := by rw [Nat.add_mul, Nat.one_mul, hl]; omega
    rw [e, List.take_succ_cons, e2, List.take_length_add_append]
    exact ⟨c1, _, rfl, h1, CKs.takeD k h2⟩
theorem zcs_one : ∀ (t : Ty), ∀ v ∈ t.zcs, v.oneCell' = true
  | .int k, v, h => by rw [List.mem_singleton.1 h]; rfl
  | .bool, v, h => by rw [List.mem_singleton.1 h]; rfl
  | .str, v, h => by rw [List.mem_singleton.1 h]; rfl
  | .row _ _, v, h => by rw [List.mem_singleton.1 h]; rfl
  | .pair a b, v, h => by
    rcases List.mem_append.1 h with h | h
    · exact zcs_one a v h
    · exact zcs_one b v h
theorem clearAt_ok {K : AV → St → Prop} (hT : T.Good P) (hs : Sim w0 M n s a w g) {t ty : TypeId} {id gen lo : Nat} {v : Value} (h : clearAt T t id gen lo s K)
    (hv : ∀ r, s.rw id = some r → r.gen = gen → lo ≤ r.xs.length → v = subV r.t.sz lo r.xs.length (g.rv id gen)) :
    ∃ s' w' g', K .un s' ∧ (Builtin.clear_ #[t] ty #[v]).run P w = .ok (.tuple #[]) w' ∧ Sim w0 M n s' a w' g' := by
  unfold clearAt at h
  split at h
  · rename_i re rt xs rg ti hr hti
    obtain ⟨h0, hg⟩ := rowId_eq hr
    have hg' : rg = gen := hg
    split at h
    · rename_i e hd
      split at h
      · rename_i ei hei
        split at h
        · rename_i t' ht'
          split at h
          · rename_i htt
            subst htt
            obtain ⟨hlo, h⟩ := h
            obtain ⟨dd, k1, k2⟩ := (hT.get hti).under
            rw [hd] at k2
            obtain rfl := TD.of_slice k2
            have hgood := (hT.get hei).ty
            rw [ht'] at hgood
            have hzr := run_zero (w := w) (hT.get hei)
            have hvv := hv _ h0 hg hlo
            obtain ⟨m1, m2, cs0, m3, m4⟩ := hs.rw id _ h0
            simp only at m3 m4 m2 hvv
            rw [hg'] at m2 m3
            have hcl := m4.len
            have hll : (xs.take lo ++ List.replicate (xs.length - lo) t'.zero).length = xs.length := by rw [List.length_append, List.length_take, List.length_replicate]; omega
            have hrws : ∀ k, s.rw k ≠ none → (s.row id ⟨re, t', xs.take lo ++ List.replicate (xs.length - lo) t'.zero, rg⟩).rw k ≠ none := fun k hk => by
              show fset s.rw id _ k ≠ none
              by_cases e : k = id
              · subst e; rw [fset_same]; simp
              · rw [fset_ne _ _ e]; exact hk
            by_cases hn0 : xs.length - lo = 0
            · -- nothing to do
              have hsame : xs.take lo ++ List.replicate (xs.length - lo) t'.zero = xs := by rw [hn0, List.replicate_zero, List.append_nil, List.take_of_length_le (by omega)]
              refine ⟨_, w, g, h, ?_, ?_⟩
              · have hvz : ∃ A c, v = .slice A 0 c := by
                  rcases m3.2 with ⟨e, hn⟩ | ⟨b, cap, cur, e, _⟩
                  · rw [hvv, e]; exact ⟨_, _, by rw [← hn0]; rfl⟩
                  · rw [hvv, e]; exact ⟨_, _, by rw [← hn0]; rfl⟩
                obtain ⟨A, c, rfl⟩ := hvz
                cases A with
                | none => simp [Builtin.clear_, run_underlying k1]
                | some A => simp [Builtin.clear_, run_underlying k1]
              · rw [hsame]
                have hst : s.row id ⟨re, t', xs, rg⟩ = s := by
                  have : fset s.rw id (some ⟨re, t', xs, rg⟩) = s.rw := by
                    funext j
                    by_cases e : j = id
                    · subst e; rw [fset_same, h0]
                    · rw [fset_ne _ _ e]
                  unfold St.row
                  rw [this]
                rw [hst]
                exact hs
            · rcases m3.2 with ⟨e, hn⟩ | ⟨b, cap, cur, e, hbb, hheap, hcap, hmax, hcs, htk⟩
              · omega
              · have hbl : g.lab b = .row id := m2 b (by rw [e]; rfl)
                have hcl0 : cap ≠ lo := by omega
                have hadd : (⟨b, 0, none⟩ : Addr).add (lo * t'.sz) = ⟨b, lo * t'.sz, none⟩ := by unfold Addr.add; split <;> simp_all
                have hve : v = .slice (some ⟨b, lo * t'.sz, none⟩) (xs.length - lo) (cap - lo) := by
                  rw [hvv, e]
                  simp only [subV, if_neg hcl0, Option.map_some, hadd]
                have hsz : ei.size = t'.sz := hgood.1
                have hzs : ei.zero.cells.size = t'.sz := by rw [← Array.length_toList, hgood.2, zcs_len]
                have hzeros : (Builtin.zeroCells ei.zero.cells (xs.length - lo)).toList = (List.replicate (xs.length - lo) t'.zcs).flatten := by
                  unfold Builtin.zeroCells
                  have := zeros_eq hgood.2 (xs.length - lo)
                  rw [← hzs] at this
                  exact this
                have hfl : ((List.replicate (xs.length - lo) t'.zcs).flatten).length = (xs.length - lo) * t'.sz := by
                  rw [List.length_flatten, List.map_replicate, List.sum_replicate_nat, zcs_len]
                have hm1 : lo * t'.sz + (xs.length - lo) * t'.sz = xs.length * t'.sz := by rw [← Nat.add_mul]; congr 1; omega
                have hm3 : lo * t'.sz ≤ xs.length * t'.sz := Nat.mul_le_mul_right _ hlo
                have hm2 : xs.length * t'.sz ≤ cap * t'.sz := Nat.mul_le_mul_right _ hcap
                have hrun := run_storeCells_at P b (lo * t'.sz) re (List.replicate (xs.length - lo) t'.zcs).flatten 0 cur w hheap (by rw [hfl]; omega) (fun u hu => by
                  obtain ⟨l, hl, hu⟩ := List.mem_flatten.1 hu
                  rw [List.eq_of_mem_replicate hl] at hu
                  exact zcs_one _ u hu)
                simp only [Nat.add_zero] at hrun
                have hgr := setRow_grown (w := w) b (cur.toList.take (lo * t'.sz) ++ (List.replicate (xs.length - lo) t'.zcs).flatten ++ cur.toList.drop (lo * t'.sz + (List.replicate (xs.length - lo) t'.zcs).flatten.length)).toArray
                have hL0 : ¬ (Lab.row id = .old ∨ Lab.row id = .hid ∨ Lab.row id = .fz ∨ Lab.row id = .free) := by simp
                have hrow : ∀ b', some b = some b' → g.lab b' = Lab.row id := fun b' e => by cases e; exact hbl
                have he := ext_wr (s' := s.row id ⟨re, t', xs.take lo ++ List.replicate (xs.length - lo) t'.zero, rg⟩) (g' := g) hs hgr hrow hL0 (L := .fz) (.inl ⟨by simp, rfl⟩) (fun k hk => ⟨hrws k hk, Nat.le_refl _, fun _ _ => rfl⟩)
                  (fun k r r' h1 h2 _ => by
                    have h2' : fset s.rw id (some ⟨re, t', xs.take lo ++ List.replicate (xs.length - lo) t'.zero, rg⟩) k = some r' := h2
                    by_cases e : k = id
                    · subst e
                      rw [fset_same] at h2'
                      rw [h0] at h1
                      cases h1; cases h2'
                      exact ⟨rfl, rfl, hll⟩
                    · rw [fset_ne _ _ e] at h2'
                      rw [h2'] at h1
                      cases h1
                      exact ⟨rfl, rfl, rfl⟩) (fun k hk => ⟨hk, rfl⟩)
                refine ⟨_, _, g, h, ?_, hs.wr hgr hrow hL0 (L := .fz) (by simp) (.inl ⟨by simp, rfl⟩) he rfl (fun k b' hb' => .inl ⟨hb', by simp, rfl⟩) (fun k q hq => ?_)⟩
                · rw [hve]
                  obtain ⟨m, hm⟩ : ∃ m, xs.length - lo = m + 1 := ⟨xs.length - lo - 1, by omega⟩
                  rw [hm] at hzeros hrun ⊢
                  simp only [Builtin.clear_, run_underlying k1, Sem.run_bind, Result.andThen_ok, hzr]
                  simp only [List.getElem?_toArray, List.getElem?_cons_zero, Sem.run_bind, run_underlying k1, Result.andThen_ok, hzr, hzeros, hrun]
                  rfl
                · have hq' : fset s.rw id (some ⟨re, t', xs.take lo ++ List.replicate (xs.length - lo) t'.zero, rg⟩) k = some q := hq
                  by_cases ek : k = id
                  · subst ek
                    rw [fset_same] at hq'
                    cases hq'
                    have hck : CKs w (okL g.lab) t' (xs.take lo ++ List.replicate (xs.length - lo) t'.zero) (cs0.take (lo * t'.sz) ++ (List.replicate (xs.length - lo) t'.zcs).flatten) := CKs.app (zeros_CK t' _) (CKs.takeD lo m4)
                    refine .inr ⟨m1, fun b' hb' => m2 b' (by rw [← hg']; exact hb'), _, ?_, hck.frame (fun b hb => (he.ok b hb).1) (fun _ h => h)⟩
                    have hcl2 := hck.len
                    simp only [hg', hll] at hcl2 ⊢
                    refine ⟨hcl2, .inr ⟨b, cap, _, e, Nat.zero_le _, setRow_heap w b cur _ re _ hheap, hcap, hmax, ?_, ?_⟩⟩
                    · simp only [List.size_toArray, List.length_append, List.length_take, List.length_drop, Array.length_toList, hfl]
                      omega
                    · show List.take (xs.length * t'.sz) (cur.toList.take (lo * t'.sz) ++ (List.replicate (xs.length - lo) t'.zcs).flatten ++ cur.toList.drop (lo * t'.sz + (List.replicate (xs.length - lo) t'.zcs).flatten.length)) = cs0.take (lo * t'.sz) ++ (List.replicate (xs.length - lo) t'.zcs).flatten
                      have hl1 : (cur.toList.take (lo * t'.sz)).length = lo * t'.sz := by rw [List.length_take, Array.length_toList]; omega
                      rw [List.take_left' (by rw [List.length_append, hl1, hfl, hm1]), ← htk, List.take_take, Nat.min_eq_left hm3]
                  · rw [fset_ne _ _ ek] at hq'
                    exact .inl ⟨hq', by simp; exact ek, rfl, rfl⟩
          · exact h.elim
        · exact h.elim
      · exact h.elim
    · exact h.elim
  · exact h.elim
theorem clearE_ok {K : AV → St → Prop} (hT : T.Good P) (hs : Sim w0 M n s a w g) {t ty : TypeId} {x : AV} {v : Value} (h : clearE T t x s K) (hx : VR w g s x v) :
    ∃ s' w' g', K .un s' ∧ (Builtin.clear_ #[t] ty #[v]).run P w = .ok (.tuple #[]) w' ∧ Sim w0 M n s' a w' g' := by
  unfold clearE at h
  split at h
  · rename_i id gen
    refine clearAt_ok hT hs h (fun r hr hg _ => ?_)
    obtain ⟨_, h1, h2, h3⟩ := one_inv hx
    obtain ⟨A, c, e1, e2, e3, e4⟩ := (hs.rw id r hr).rowC
    rw [h3, ← hg, e1]
    simp only [subV, Nat.sub_zero, Nat.zero_mul]
    by_cases hc : c = 0
    · rw [if_pos hc]
    · rw [if_neg hc]
      cases A with
      | none => rfl
      | some A => simp [Addr.add]
  · rename_i id gen lo
    refine clearAt_ok hT hs h (fun r hr hg _ => ?_)
    obtain ⟨_, h1, h2, h3⟩ := one_inv hx
    exact (h3 r hr hg).2.2
  · exact h.elim
end
end Go.Ab
/- A state brought into a form: rows get new numbers, what is not needed is let go. No conditions. -/
namespace Go.Ab
open Go
/-! ### a row's new number -/
def CV.ren (id gen id' : Nat) : CV → CV
  | .own i k => bif Nat.beq i id then (bif Nat.beq k gen then .own id' 0 else .un) else (bif Nat.beq i id' then .un else .own i k)
  | .sub i k lo hi => bif Nat.beq i id then (bif Nat.beq k gen then .sub id' 0 lo hi else .un) else (bif Nat.beq i id' then .un else .sub i k lo hi)
  | .elt i k j off => bif Nat.beq i id then .un else (bif Nat.beq i id' then .un else .elt i k j off)
  | c => c
def St.ren (s : St) (id id' : Nat) (r : Row) : St where
  tm t := (s.tm t).map (CV.ren id r.gen id')
  bx i := (s.bx i).map fun b => ⟨b.ty, b.cs.map (CV.ren id r.gen id')⟩
  rw j := bif Nat.beq j id' then some ⟨r.e, r.t, r.xs, 0⟩ else (bif Nat.beq j id then none else s.rw j)
  mp := s.mp
section
variable {P : Program} {T : Tab} {w0 w w' : World} {M : Mv} {n : Nat} {s s' : St} {a : Act} {g g' : Gh}
theorem beq_ne {i j : Nat} (h : Nat.beq i j = false) : i ≠ j := by rintro rfl; rw [Nat.beq_refl] at h; cases h
theorem Sim.ren (hs : Sim w0 M n s a w g) {id id' : Nat} {r : Row} (hr : s.rw id = some r) (hid : s.rw id' = none ∨ id' = id) : ∃ g', Sim w0 M n (s.ren id id' r) a w g' := by
  have hgen := (hs.rw id r hr).gen
  let g' : Gh := { g with lab := fun b => if g.lab b = .row id then .row id' else g.lab b, rv := fset g.rv id' (fun _ => g.rv id r.gen), cg := fset g.cg id' 0 }
  have hrn : s.rw id ≠ none := by rw [hr]; simp
  have hne' : ∀ j, s.rw j ≠ none → j ≠ id → j ≠ id' := fun j hj h1 h2 => by
    rcases hid with h | h
    · rw [h2] at hj; exact hj h
    · exact h1 (h2.trans h)
  have hrw1 : (s.ren id id' r).rw id' = some ⟨r.e, r.t, r.xs, 0⟩ := by
    show (bif Nat.beq id' id' then _ else _) = _
    rw [Nat.beq_refl]; rfl
  have hrw2 : ∀ j, j ≠ id → j ≠ id' → (s.ren id id' r).rw j = s.rw j := fun j h1 h2 => by
    show (bif Nat.beq j id' then _ else (bif Nat.beq j id then none else s.rw j)) = _
    cases hb : Nat.beq j id' with
    | true => exact absurd (Nat.eq_of_beq_eq_true hb) h2
    | false =>
      cases hb2 : Nat.beq j id with
      | true => exact absurd (Nat.eq_of_beq_eq_true hb2) h1
      | false => rfl
  have hok : ∀ b, okL g.lab b → okL g'.lab b := fun b hb => by
    have : g.lab b ≠ .row id := by rcases hb with h | h <;> rw [h] <;> simp
    unfold okL
    rw [show g'.lab b = g.lab b from if_neg this]
    exact hb
  have hbx : ∀ j, s.bx j ≠ none → (s.ren id id' r).bx j ≠ none := fun j hj => by
    show (s.bx j).map _ ≠ none
    cases h : s.bx j with
    | none => exact absurd h hj
    | some b => simp
  have hrv' : ∀ k, g'.rv id' k = g.rv id r.gen := fun k => by show fset g.rv id' _ id' k = _; rw [fset_same]
  have hcg' : g'.cg id' = 0 := fset_same _ _ _
  have hf : ∀ c v, v.oneCell' = true → CR w g s c v → CR w g' (s.ren id id' r) (CV.ren id r.gen id' c) v := by
    intro c v _ h
    cases c with
    | un => trivial
    | dat t x => exact CK.frame (fun _ _ => rfl) hok h
    | nil e t => exact h
    | ptr i off => exact ⟨hbx _ h.1, h.2⟩
    | loc t x =>
      obtain ⟨ad, es, h1, h2, h3, h4⟩ := h
      exact ⟨ad, es, h1, hok _ h2, CK.frame (fun _ _ => rfl) hok h3, h4⟩
    | fn f fst caps =>
      obtain ⟨h1, vs, h3, h2⟩ := h
      exact ⟨fun j hj => hbx _ (h1 j hj), vs, h3.frame (fun _ _ => rfl) hok, h2⟩
    | fnp j => exact h
    | locf j =>
      obtain ⟨ad, h1, h2, h3⟩ := h
      exact ⟨ad, h1, hok _ h2, h3⟩
    | mp id => exact h
    | own i k =>
      cases hb : Nat.beq i id with
      | true =>
        simp only [CV.ren, hb, cond_true]
        obtain rfl := Nat.eq_of_beq_eq_true hb
        cases hb2 : Nat.beq k r.gen with
        | true =>
          simp only [cond_true]
          obtain rfl := Nat.eq_of_beq_eq_true hb2
          exact ⟨by rw [hrw1]; simp, by rw [hcg']; exact Nat.le_refl _, by rw [hrv']; exact h.2.2⟩
        | false => simp only [cond_false]; trivial
      | false =>
        have h1 := beq_ne hb
        cases hb2 : Nat.beq i id' with
        | true => simp only [CV.ren, hb, hb2, cond_false, cond_true]; trivial
        | false =>
          have h2 := beq_ne hb2
          simp only [CV.ren, hb, hb2, cond_false]
          exact ⟨by rw [hrw2 _ h1 h2]; exact h.1, by show k ≤ fset g.cg id' 0 i; rw [fset_ne _ _ h2]; exact h.2.1, by show v = fset g.rv id' _ i k; rw [fset_ne _ _ h2]; exact h.2.2⟩
    | sub i k lo hi =>
      cases hb : Nat.beq i id with
      | true =>
        simp only [CV.ren, hb, cond_true]
        obtain rfl := Nat.eq_of_beq_eq_true hb
        cases hb2 : Nat.beq k r.gen with
        | true =>
          simp only [cond_true]
          obtain rfl := Nat.eq_of_beq_eq_true hb2
          refine ⟨by rw [hrw1]; simp, by rw [hcg']; exact Nat.le_refl _, fun q hq _ => ?_⟩
          rw [hrw1] at hq
          cases hq
          rw [hrv']
          exact h.2.2 r hr rfl
        | false => simp only [cond_false]; trivial
      | false =>
        have h1 := beq_ne hb
        cases hb2 : Nat.beq i id' with
        | true => simp only [CV.ren, hb, hb2, cond_false, cond_true]; trivial
        | false =>
          have h2 := beq_ne hb2
          simp only [CV.ren, hb, hb2, cond_false]
          refine ⟨by rw [hrw2 _ h1 h2]; exact h.1, by show k ≤ fset g.cg id' 0 i; rw [fset_ne _ _ h2]; exact h.2.1, fun q hq hg => ?_⟩
          rw [hrw2 _ h1 h2] at hq
          show _ ∧ _ ∧ v = subV _ _ _ (fset g.rv id' _ i k)
          rw [fset_ne _ _ h2]
          exact h.2.2 q hq hg
    | elt i k j off =>
      cases hb : Nat.beq i id with
      | true => simp only [CV.ren, hb, cond_true]; trivial
      | false =>
        have h1 := beq_ne hb
        cases hb2 : Nat.beq i id' with
        | true => simp only [CV.ren, hb, hb2, cond_false, cond_true]; trivial
        | false =>
          have h2 := beq_ne hb2
          simp only [CV.ren, hb, hb2, cond_false]
          refine ⟨by rw [hrw2 _ h1 h2]; exact h.1, by show k ≤ fset g.cg id' 0 i; rw [fset_ne _ _ h2]; exact h.2.1, fun q hq hg => ?_⟩
          rw [hrw2 _ h1 h2] at hq
          show _ ∧ ∃ A n c, fset g.rv id' _ i k = _ ∧ _
          rw [fset_ne _ _ h2]
          exact h.2.2 q hq hg
  have hl : ∀ b, g.lab b ≠ .row id → g'.lab b = g.lab b := fun b hb => if_neg hb
  refine ⟨g', ⟨hs.sz, hs.df, fun t => VR.map hf (hs.tm t), fun b hb => ?_, fun b hb => ?_, fun b hb => ?_, fun b hb => ?_, fun p hp => ⟨hbx _ (hs.pin p hp).1, (hs.pin p hp).2⟩, hs.hs, hs.os, hs.tape, hs.output, fun j b hb => ?_, fun j q hq => ?_, fun j c hc => ?_, hs.fv⟩⟩
  · rw [hl b (by rw [hs.fr b hb]; simp)]
    exact hs.fr b hb
  · have hne : g.lab b ≠ .row id := fun e => by
      have : g'.lab b = .row id' := if_pos e
      rw [this] at hb
      simp at hb
    rw [hl b hne] at hb
    exact hs.old b hb
  · rcases hs.low b hb with h | h
    · exact .inl (by rw [hl b (by intro e; rw [e] at h; simp at h)]; exact h)
    · exact .inr h
  · have hne : g.lab b ≠ .row id := fun e => by
      have : g'.lab b = .row id' := if_pos e
      rw [this] at hb
      simp at hb
    rw [hl b hne] at hb
    exact hs.okb b hb
  · have hb' : (s.bx j).map (fun b => (⟨b.ty, b.cs.map (CV.ren id r.gen id')⟩ : Box)) = some b := hb
    obtain ⟨b0, h0, rfl⟩ := Option.map_eq_some_iff.1 hb'
    obtain ⟨h1, arr, h2, h3⟩ := hs.bx j b0 h0
    exact ⟨by rw [hl _ (by rw [h1]; simp)]; exact h1, arr, h2, CRs.map hf h3⟩
  · by_cases e : j = id'
    · subst e
      rw [hrw1] at hq
      cases hq
      obtain ⟨m1, m2, cs, m3, m4⟩ := hs.rw id r hr
      exact ⟨hcg'.symm, fun b hb => by rw [hrv'] at hb; exact if_pos (m2 b hb), cs, by rw [hrv']; exact m3, m4.frame (fun _ _ => rfl) hok⟩
    · by_cases e2 : j = id
      · subst e2
        have : (s.ren j id' r).rw j = none := by
          show (bif Nat.beq j id' then _ else (bif Nat.beq j j then none else s.rw j)) = _
          cases hb : Nat.beq j id' with
          | true => exact absurd (Nat.eq_of_beq_eq_true hb) e
          | false => rw [Nat.beq_refl]; rfl
        rw [this] at hq
        cases hq
      · rw [hrw2 _ e2 e] at hq
        refine (hs.rw j q hq).keep (fun b hb => ⟨rfl, hok b hb⟩) (fun b hb => ⟨rfl, ?_⟩) (fset_ne _ _ e) (by show fset g.rv id' _ j _ = _; rw [fset_ne _ _ e])
        rw [hl b (by rw [hb]; simp; exact e2)]
        exact hb
  · have h4 := hs.mp j c hc
    exact h4.keep ⟨rfl, by rw [hl _ (by rw [h4.lab]; simp)]; exact h4.lab⟩ rfl
end
/-! ### what is kept -/
def CV.filt (rs bs ms : List Nat) : CV → CV
  | .own i k => bif memB rs i then .own i k else .un
  | .sub i k lo hi => bif memB rs i then .sub i k lo hi else .un
  | .elt i k j off => bif memB rs i then .elt i k j off else .un
  | .ptr i off => bif memB bs i then .ptr i off else .un
  | .mp i => bif memB ms i then .mp i else .un
  | .fn f fst caps => bif caps.all (memB bs) then .fn f fst caps else .un
  | c => c
def lk {α : Type} (d : α) : List (Nat × α) → Nat → α
  | [], _ => d
  | p :: l, t => bif Nat.beq p.1 t then p.2 else lk d l t
def mkSt (tm : List (Nat × AV)) (bx : List (Nat × Box)) (rw : List (Nat × Row)) (mp : List (Nat × MapC)) : St where
  tm := lk .un tm
  bx i := lk none (bx.map fun p => (p.1, some p.2)) i
  rw i := lk none (rw.map fun p => (p.1, some p.2)) i
  mp i := lk none (mp.map fun p => (p.1, some p.2)) i
structure Spec where
  tms : List Nat
  rows : List (Nat × Nat)      -- slot, and the number that its row gets
  brows : List (Nat × Nat × Nat)   -- variable, cell, and the number
  bxs : List Nat
  fr : List Nat      -- slots whose row is only read from here on
  mps : List Nat
  bfr : List Nat     -- variables whose rows are only read from here on
def datT (s : St) : List Nat → (St → Prop) → Prop
  | [], K => K s
  | t :: ts, K => match s.tm t with
    | .sv false [.nil e ty] => datT { s with tm := fset s.tm t (.sv false [.dat (.row e ty) ([] : List ty.den)]) } ts K
    | .sv false [c] => frzAll s [c] fun s' => datT s' ts K
    | _ => datT s ts K
def CV.nilD : CV → CV
  | .nil e ty => .dat (.row e ty) ([] : List ty.den)
  | c => c
def datB (s : St) : List Nat → (St → Prop) → Prop
  | [], K => K s
  | i :: is, K => match s.bx i with
    | some b => frzAll s b.cs fun s' => match s'.bx i with
      | some b' => datB (s'.setBx i ⟨b'.ty, b'.cs.map CV.nilD⟩) is K
      | none => False
    | none => False
def ren1 (id' : Nat) (c : CV) (put : CV → St → St) (s : St) (K : St → Prop) : Prop :=
  match c with
  | .own id gen => match CV.rowId s id gen with
    | some r => bif Nat.beq id' id then K (s.ren id id' r) else match s.rw id' with
      | none => K (s.ren id id' r)
      | some _ => False
    | none => False
  | .nil e t => match s.rw id' with
    | none => K (put (.own id' 0) (s.row id' ⟨e, t, [], 0⟩))
    | some _ => False
  | _ => False
def renT (s : St) : List (Nat × Nat) → (St → Prop) → Prop
  | [], K => K s
  | p :: ps, K => match s.tm p.1 with
    | .sv false [c] => ren1 p.2 c (fun c s => { s with tm := fset s.tm p.1 (sv1 c) }) s fun s' => renT s' ps K
    | _ => False
def renB (s : St) : List (Nat × Nat × Nat) → (St → Prop) → Prop
  | [], K => K s
  | p :: ps, K => match s.bx p.1 with
    | some b => match b.cs[p.2.1]? with
      | some c => ren1 p.2.2 c (fun c s => s.setBx p.1 ⟨b.ty, b.cs.set p.2.1 c⟩) s fun s' => renB s' ps K
      | none => False
    | none => False
def getAll {α : Type} (f : Nat → Option α) : List Nat → (List (Nat × α) → Prop) → Prop
  | [], K => K []
  | i :: is, K => match f i with
    | some x => getAll f is fun l => K ((i, x) :: l)
    | none => False
def normE (pins : List Nat) (sp : Spec) (s : St) (K : St → Prop) : Prop :=
  datT s sp.fr fun s => datB s sp.bfr fun s => bif pins.all (memB sp.bxs) then renT s sp.rows fun s => renB s sp.brows fun s =>
    getAll s.bx sp.bxs fun bl => getAll s.rw (sp.rows.map (·.2) ++ sp.brows.map (·.2.2)) fun rl => getAll s.mp sp.mps fun ml =>
      K (mkSt (sp.tms.map fun t => (t, (s.tm t).map (CV.filt (sp.rows.map (·.2) ++ sp.brows.map (·.2.2)) sp.bxs sp.mps))) (bl.map fun p => (p.1, ⟨p.2.ty, p.2.cs.map (CV.filt (sp.rows.map (·.2) ++ sp.brows.map (·.2.2)) sp.bxs sp.mps)⟩)) rl ml) else False
section
variable {P : Program} {T : Tab} {w0 w w' : World} {M : Mv} {n : Nat} {s s' : St} {a : Act} {g g' : Gh}
theorem lk_mem {α : Type} {d x : α} : ∀ {l : List (Nat × α)} {t : Nat}, lk d l t = x → x ≠ d → (t, x) ∈ l
  | [], t, h, hd => absurd h.symm hd
  | p :: l, t, h, hd => by
    unfold lk at h
    cases hb : Nat.beq p.1 t with
    | true => rw [hb] at h; rw [← Nat.eq_of_beq_eq_true hb, ← h]; exact List.mem_cons_self
    | false => rw [hb] at h; exact List.mem_cons_of_mem _ (lk_mem h hd)
theorem lk_some {α : Type} : ∀ {l : List (Nat × α)} {t : Nat}, (∃ x, (t, x) ∈ l) → lk none (l.map fun p => (p.1, some p.2)) t ≠ none
  | [], t, ⟨x, h⟩ => by cases h
  | p :: l, t, ⟨x, h⟩ => by
    rw [List.map_cons]
    unfold lk
    cases hb : Nat.beq p.1 t with
    | true => simp
    | false =>
      rcases List.mem_cons.1 h with e | h
      · rw [← e] at hb; simp at hb
      · exact lk_some ⟨x, h⟩
theorem lk_get {α : Type} {f : Nat → Option α} {l : List (Nat × α)} (h : ∀ p ∈ l, f p.1 = some p.2) {t : Nat} {x : α} (hx : lk none (l.map fun p => (p.1, some p.2)) t = some x) : f t = some x ∧ ∃ y, (t, y) ∈ l := by
  have := lk_mem hx (by simp)
  obtain ⟨p, h1, h2⟩ := List.mem_map.1 this
  simp only [Prod.mk.injEq, Option.some.injEq] at h2
  obtain ⟨rfl, rfl⟩ := h2
  exact ⟨h p h1, p.2, h1⟩
theorem getAll_ok {α : Type} {f : Nat → Option α} : ∀ {is : List Nat} {K : List (Nat × α) → Prop}, getAll f is K → ∃ l, K l ∧ (∀ p ∈ l, f p.1 = some p.2 ∧ p.1 ∈ is) ∧ ∀ i ∈ is, ∃ x, (i, x) ∈ l
  | [], K, h => ⟨[], h, (fun p hp => by cases hp), (fun i hi => by cases hi)⟩
  | i :: is, K, h => by
    unfold getAll at h
    split at h
    · rename_i x hx
      obtain ⟨l, h1, h2, h3⟩ := getAll_ok (K := fun l => K ((i, x) :: l)) h
      refine ⟨(i, x) :: l, h1, fun p hp => ?_, fun j hj => ?_⟩
      · rcases List.mem_cons.1 hp with rfl | hp
        · exact ⟨hx, List.mem_cons_self⟩
        · exact ⟨(h2 p hp).1, List.mem_cons_of_mem _ (h2 p hp).2⟩
      · rcases List.mem_cons.1 hj with rfl | hj
        · exact ⟨x, List.mem_cons_self⟩
        · obtain ⟨y, hy⟩ := h3 j hj
          exact ⟨y, List.mem_cons_of_mem _ hy⟩
    · exact h.elim
theorem memB_iff {l : List Nat} {i : Nat} : memB l i = true ↔ i ∈ l := by
  unfold memB
  rw [List.any_eq_true]
  constructor
  · rintro ⟨x, hx, e⟩
    rw [Nat.eq_of_beq_eq_true e]; exact hx
  · exact fun h => ⟨i, h, Nat.beq_refl i⟩
/-- What is not kept is let go. -/
theorem Sim.keepOnly (hs : Sim w0 M n s a w g) {tms rs bs ms : List Nat} {bl : List (Nat × Box)} {rl : List (Nat × Row)} {ml : List (Nat × MapC)} (hm1 : ∀ p ∈ ml, s.mp p.1 = some p.2 ∧ p.1 ∈ ms) (hm2 : ∀ i ∈ ms, ∃ x, (i, x) ∈ ml) (hb1 : ∀ p ∈ bl, s.bx p.1 = some p.2 ∧ p.1 ∈ bs) (hb2 : ∀ i ∈ bs, ∃ x, (i, x) ∈ bl)
    (hr1 : ∀ p ∈ rl, s.rw p.1 = some p.2 ∧ p.1 ∈ rs) (hr2 : ∀ i ∈ rs, ∃ x, (i, x) ∈ rl) (hpn : ∀ p ∈ M.pin, p.1 ∈ bs) :
    ∃ g', Sim w0 M n (mkSt (tms.map fun t => (t, (s.tm t).map (CV.filt rs bs ms))) (bl.map fun p => (p.1, ⟨p.2.ty, p.2.cs.map (CV.filt rs bs ms)⟩)) rl ml) a w g' := by
  generalize hS : mkSt (tms.map fun t => (t, (s.tm t).map (CV.filt rs bs ms))) (bl.map fun p => (p.1, ⟨p.2.ty, p.2.cs.map (CV.filt rs bs ms)⟩)) rl ml = S
  let drop : Lab → Bool := fun l => match l with | .row id => !memB rs id | .box id => !memB bs id | .mp id => !memB ms id | _ => false
  let g' : Gh := { g with lab := fun b => if drop (g.lab b) = true then .fz else g.lab b }
  have hl : ∀ b, drop (g.lab b) = false → g'.lab b = g.lab b := fun b hb => if_neg (by rw [hb]; simp)
  have hok : ∀ b, okL g.lab b → okL g'.lab b := fun b hb => by
    unfold okL
    rw [hl b (by rcases hb with h | h <;> rw [h])]
    exact hb
  have hrw : ∀ i ∈ rs, S.rw i ≠ none := fun i hi => by
    subst hS
    exact lk_some (hr2 i hi)
  have hrw' : ∀ i r, S.rw i = some r → s.rw i = some r ∧ i ∈ rs := fun i r h => by
    subst hS
    obtain ⟨h1, y, h2⟩ := lk_get (f := s.rw) (fun p hp => (hr1 p hp).1) h
    exact ⟨h1, (hr1 _ h2).2⟩
  have hbx : ∀ i ∈ bs, S.bx i ≠ none := fun i hi => by
    subst hS
    obtain ⟨x, hx⟩ := hb2 i hi
    exact lk_some ⟨_, List.mem_map.2 ⟨_, hx, rfl⟩⟩
  have hmp : ∀ i ∈ ms, s.mp i ≠ none → S.mp i ≠ none := fun i hi _ => by
    subst hS
    exact lk_some (hm2 i hi)
  have hf : ∀ c v, v.oneCell' = true → CR w g s c v → CR w g' S (CV.filt rs bs ms c) v := by
    intro c v _ h
    cases c with
    | un => trivial
    | dat t x => exact CK.frame (fun _ _ => rfl) hok h
    | nil e t => exact h
    | loc t x =>
      obtain ⟨ad, es, h1, h2, h3, h4⟩ := h
      exact ⟨ad, es, h1, hok _ h2, CK.frame (fun _ _ => rfl) hok h3, h4⟩
    | own i k =>
      cases hm : memB rs i with
      | true => simp only [CV.filt, hm, cond_true]; exact ⟨hrw i (memB_iff.1 hm), h.2⟩
      | false => simp only [CV.filt, hm, cond_false]; trivial
    | sub i k lo hi =>
      cases hm : memB rs i with
      | true => simp only [CV.filt, hm, cond_true]; exact ⟨hrw i (memB_iff.1 hm), h.2.1, fun r hr => h.2.2 r (hrw' i r hr).1⟩
      | false => simp only [CV.filt, hm, cond_false]; trivial
    | elt i k j off =>
      cases hm : memB rs i with
      | true => simp only [CV.filt, hm, cond_true]; exact ⟨hrw i (memB_iff.1 hm), h.2.1, fun r hr => h.2.2 r (hrw' i r hr).1⟩
      | false => simp only [CV.filt, hm, cond_false]; trivial
    | ptr i off =>
      cases hm : memB bs i with
      | true => simp only [CV.filt, hm, cond_true]; exact ⟨hbx i (memB_iff.1 hm), h.2⟩
      | false => simp only [CV.filt, hm, cond_false]; trivial
    | fn f fst caps =>
      cases hm : caps.all (memB bs) with
      | true =>
        simp only [CV.filt, hm, cond_true]
        obtain ⟨h1, vs, h3, h2⟩ := h
        exact ⟨fun j hj => hbx j (memB_iff.1 (List.all_eq_true.1 hm j hj)), vs, h3.frame (fun _ _ => rfl) hok, h2⟩
      | false => simp only [CV.filt, hm, cond_false]; trivial
    | fnp j => exact h
    | locf j =>
      obtain ⟨ad, h1, h2, h3⟩ := h
      exact ⟨ad, h1, hok _ h2, h3⟩
    | mp i =>
      cases hm : memB ms i with
      | true => simp only [CV.filt, hm, cond_true]; exact ⟨hmp i (memB_iff.1 hm) h.1, h.2⟩
      | false => simp only [CV.filt, hm, cond_false]; trivial
  refine ⟨g', ⟨hs.sz, hs.df, fun t => ?_, fun b hb => ?_, fun b hb => ?_, fun b hb => ?_, fun b hb => ?_, fun p hp => ⟨hbx _ (hpn p hp), (hs.pin p hp).2⟩, hs.hs, hs.os, hs.tape, hs.output, fun j b hb => ?_, fun j q hq => ?_, fun j c hc => ?_, hs.fv⟩⟩
  · by_cases hu : S.tm t = .un
    · rw [hu]; trivial
    · have : lk .un (tms.map fun t => (t, (s.tm t).map (CV.filt rs bs ms))) t = S.tm t := by subst hS; rfl
      obtain ⟨t', h1, h2⟩ := List.mem_map.1 (lk_mem this hu)
      simp only [Prod.mk.injEq] at h2
      obtain ⟨rfl, h2⟩ := h2
      rw [← h2]
      exact VR.map hf (hs.tm t')
  · rw [hl b (by rw [hs.fr b hb])]
    exact hs.fr b hb
  · have hd : drop (g.lab b) = false := by
      cases hd : drop (g.lab b) with
      | false => rfl
      | true =>
        have : g'.lab b = .fz := if_pos hd
        rw [this] at hb
        simp at hb
    rw [hl b hd] at hb
    exact hs.old b hb
  · rcases hs.low b hb with h | h
    · exact .inl (by rw [hl b (by rcases h with h | h <;> rw [h])]; exact h)
    · exact .inr h
  · have hd : drop (g.lab b) = false := by
      cases hd : drop (g.lab b) with
      | false => rfl
      | true =>
        have : g'.lab b = .fz := if_pos hd
        rw [this] at hb
        simp at hb
    rw [hl b hd] at hb
    exact hs.okb b hb
  · have hb' : lk none ((bl.map fun p => (p.1, (⟨p.2.ty, p.2.cs.map (CV.filt rs bs ms)⟩ : Box))).map fun p => (p.1, some p.2)) j = some b := by subst hS; exact hb
    have := lk_mem hb' (by simp)
    obtain ⟨p, h1, h2⟩ := List.mem_map.1 this
    obtain ⟨q, h3, rfl⟩ := List.mem_map.1 h1
    simp only [Prod.mk.injEq, Option.some.injEq] at h2
    obtain ⟨rfl, rfl⟩ := h2
    obtain ⟨k1, k2⟩ := hb1 q h3
    obtain ⟨l1, arr, l2, l3⟩ := hs.bx q.1 q.2 k1
    exact ⟨by rw [hl _ (by rw [l1]; show (!memB bs q.1) = false; rw [memB_iff.2 k2]; rfl)]; exact l1, arr, l2, CRs.map hf l3⟩
  · obtain ⟨k1, k2⟩ := hrw' j q hq
    refine (hs.rw j q k1).keep (fun b hb => ⟨rfl, hok b hb⟩) (fun b hb => ⟨rfl, ?_⟩) rfl rfl
    rw [hl b (by rw [hb]; show (!memB rs j) = false; rw [memB_iff.2 k2]; rfl)]
    exact hb
  · obtain ⟨h1, h2⟩ : s.mp j = some c ∧ j ∈ ms := by
      have hc' : lk none (ml.map fun p => (p.1, some p.2)) j = some c := by subst hS; exact hc
      obtain ⟨h1, y, h2⟩ := lk_get (f := s.mp) (fun p hp => (hm1 p hp).1) hc'
      exact ⟨h1, (hm1 _ h2).2⟩
    have h4 := hs.mp j c h1
    exact h4.keep ⟨rfl, by rw [hl _ (by rw [h4.lab]; show (!memB ms j) = false; rw [memB_iff.2 h2]; rfl)]; exact h4.lab⟩ rfl
end
end Go.Ab
/- A state brought into a form: that this is sound. No conditions. -/
namespace Go.Ab
open Go
section
variable {P : Program} {T : Tab} {w0 w w' : World} {M : Mv} {n : Nat} {s s' : St} {a : Act} {g g' : Gh}
theorem ownsRow_nil' (w : World) (e : TypeId) (t : Ty) : w.ownsRow 0 e t.sz (.slice none 0 0) ([] : List t.den).length [] := World.ownsRow_nil w 0 e t.sz
theorem Sim.nilRow (hs : Sim w0 M n s a w g) {id : Nat} (hid : s.rw id = none) (e : TypeId) (t : Ty) : ∃ g', Sim w0 M n (s.row id ⟨e, t, [], 0⟩) a w g' ∧ VR w g' (s.row id ⟨e, t, [], 0⟩) (sv1 (.own id 0)) (.slice none 0 0) :=
  hs.newRow' hid ⟨rfl, rfl, rfl, Nat.le_refl _, fun _ _ _ => rfl⟩ (ownsRow_nil' w e t) (.inl ⟨rfl, rfl⟩) rfl rfl
theorem ext_tm (s : St) (g : Gh) (w : World) (f : Nat → AV) : Ext s g w { s with tm := f } g w := ⟨fun _ h => ⟨rfl, h⟩, fun _ h => ⟨h, Nat.le_refl _, fun _ _ => rfl⟩, fun _ _ _ h h2 _ => by rw [h] at h2; cases h2; exact ⟨rfl, rfl, rfl⟩, fun _ h => ⟨h, rfl⟩, fun _ h => ⟨h, rfl⟩, rfl⟩
theorem Sim.setTm (hs : Sim w0 M n s a w g) {t : Nat} {av : AV} (h : VR w g s av (a.tmps.getD t undef)) : Sim w0 M n { s with tm := fset s.tm t av } a w g :=
  have he := ext_tm s g w (fset s.tm t av)
  { hs with
    tm := fun j => by
      refine VR.ext he ?_
      show VR w g s (fset s.tm t av j) _
      by_cases e : j = t
      · subst e; rw [fset_same]; exact h
      · rw [fset_ne _ _ e]; exact hs.tm j
    bx := fun id b hb => (hs.bx id b hb).keep he ⟨rfl, (hs.bx id b hb).lab⟩ rfl
    rw := hs.rw }
theorem Sim.setCs (hs : Sim w0 M n s a w g) {id : Nat} {b : Box} (hb : s.bx id = some b) {cs : List CV} (h : ∀ arr : Array Value, CRs w g s b.cs arr.toList → CRs w g s cs arr.toList) : Sim w0 M n (s.setBx id ⟨b.ty, cs⟩) a w g := by
  have he : Ext s g w (s.setBx id ⟨b.ty, cs⟩) g w := ⟨fun _ h => ⟨rfl, h⟩, fun _ h => ⟨h, Nat.le_refl _, fun _ _ => rfl⟩, fun j r r' h h2 _ => by
      rw [show s.rw j = some r' from h2] at h; cases h; exact ⟨rfl, rfl, rfl⟩, fun j hj => ⟨by
      show fset s.bx id _ j ≠ none
      by_cases e : j = id
      · subst e; rw [fset_same]; simp
      · rw [fset_ne _ _ e]; exact hj, rfl⟩, fun _ h => ⟨h, rfl⟩, rfl⟩
  exact { hs with
    tm := fun j => VR.ext he (hs.tm j)
    pin := fun p hp => ⟨(he.bx p.1 (hs.pin p hp).1).1, (hs.pin p hp).2⟩
    bx := fun j b' hb' => by
      have hb'' : fset s.bx id (some ⟨b.ty, cs⟩) j = some b' := hb'
      by_cases e : j = id
      · subst e
        rw [fset_same] at hb''
        cases hb''
        obtain ⟨l1, arr, l2, l3⟩ := hs.bx j b hb
        exact ⟨l1, arr, l2, CRs.ext he (h arr l3)⟩
      · rw [fset_ne _ _ e] at hb''
        exact (hs.bx j b' hb'').keep he ⟨rfl, (hs.bx j b' hb'').lab⟩ rfl
    rw := hs.rw }
theorem ren1_ok {id' : Nat} {c : CV} {put : CV → St → St} {K : St → Prop} (hs : Sim w0 M n s a w g) (h : ren1 id' c put s K)
    (hput : ∀ e t g', c = .nil e t → Sim w0 M n (s.row id' ⟨e, t, [], 0⟩) a w g' → VR w g' (s.row id' ⟨e, t, [], 0⟩) (sv1 (.own id' 0)) (.slice none 0 0) → Sim w0 M n (put (.own id' 0) (s.row id' ⟨e, t, [], 0⟩)) a w g') :
    ∃ s' g', Sim w0 M n s' a w g' ∧ K s' := by
  unfold ren1 at h
  split at h
  · rename_i id gen
    split at h
    · rename_i r hr
      obtain ⟨h0, _⟩ := rowId_eq hr
      cases hb : Nat.beq id' id with
      | true =>
        rw [hb] at h
        obtain ⟨g', k⟩ := hs.ren h0 (.inr (Nat.eq_of_beq_eq_true hb))
        exact ⟨_, g', k, h⟩
      | false =>
        rw [hb] at h
        dsimp only [cond] at h
        split at h
        · rename_i hn
          obtain ⟨g', k⟩ := hs.ren h0 (.inl hn)
          exact ⟨_, g', k, h⟩
        · exact h.elim
    · exact h.elim
  · rename_i e t
    split at h
    · rename_i hn
      obtain ⟨g', k1, k2⟩ := hs.nilRow hn e t
      exact ⟨_, g', hput e t g' rfl k1 k2, h⟩
    · exact h.elim
  · exact h.elim
theorem renT_ok {K : St → Prop} (ps : List (Nat × Nat)) : ∀ {s : St} {g : Gh}, Sim w0 M n s a w g → renT s ps K → ∃ s' g', Sim w0 M n s' a w g' ∧ K s' := by
  induction ps with
  | nil => exact fun {s g} hs h => ⟨s, g, hs, h⟩
  | cons p ps ih =>
    intro s g hs h
    unfold renT at h
    split at h
    · rename_i c hc
      obtain ⟨s1, g1, k1, k2⟩ := ren1_ok hs h (fun e t g' hce k1 k2 => by
        have hv := hs.tm p.1
        rw [hc, hce] at hv
        have hv2 : a.tmps.getD p.1 undef = .slice none 0 0 := (one_inv hv).2
        exact k1.setTm (by rw [hv2]; exact k2))
      exact ih k1 k2
    · exact h.elim
theorem CRs.set {cs : List CV} {vs : List Value} {i : Nat} {c : CV} {v : Value} (h : CRs w g s cs vs) (hv : vs[i]? = some v) (h1 : v.oneCell' = true) (hc : CR w g s c v) : CRs w g s (cs.set i c) vs := by
  induction i generalizing cs vs with
  | zero =>
    match cs, vs, h with
    | [], [], _ => exact trivial
    | _ :: _, u :: _, h => cases hv; exact ⟨⟨h1, hc⟩, h.2⟩
  | succ i ih =>
    match cs, vs, h with
    | [], [], _ => exact trivial
    | _ :: _, _ :: _, h => exact ⟨h.1, ih h.2 (by simpa using hv)⟩
theorem CRs.get : ∀ {cs : List CV} {vs : List Value} {i : Nat} {c : CV}, CRs w g s cs vs → cs[i]? = some c → ∃ v, vs[i]? = some v ∧ v.oneCell' = true ∧ CR w g s c v
  | [], [], _, _, _, h => by simp at h
  | _ :: _, v :: _, 0, c, h, hc => by cases hc; exact ⟨v, rfl, h.1.1, h.1.2⟩
  | _ :: _, _ :: _, i + 1, c, h, hc => by
    obtain ⟨v, h1, h2⟩ := CRs.get h.2 (i := i) (by simpa using hc)
    exact ⟨v, by simpa using h1, h2⟩
theorem renB_ok {K : St → Prop} (ps : List (Nat × Nat × Nat)) : ∀ {s : St} {g : Gh}, Sim w0 M n s a w g → renB s ps K → ∃ s' g', Sim w0 M n s' a w g' ∧ K s' := by
  induction ps with
  | nil => exact fun {s g} hs h => ⟨s, g, hs, h⟩
  | cons p ps ih =>
    intro s g hs h
    unfold renB at h
    split at h
    · rename_i b hb
      split at h
      · rename_i c hc
        obtain ⟨s1, g1, k1, k2⟩ := ren1_ok hs h (fun e t g' hce k1 k2 => by
          refine k1.setCs (b := b) hb (fun arr hr => ?_)
          obtain ⟨v, v1, v2, v3⟩ := hr.get hc
          rw [hce] at v3
          have v3' : v = .slice none 0 0 := v3
          subst v3'
          exact hr.set v1 rfl (one_inv k2).2)
        exact ih k1 k2
      · exact h.elim
    · exact h.elim
theorem datT_ok {K : St → Prop} : ∀ (ts : List Nat) {s : St} {g : Gh}, Sim w0 M n s a w g → datT s ts K → ∃ s' g', Sim w0 M n s' a w g' ∧ K s'
  | [], s, g, hs, h => ⟨s, g, hs, h⟩
  | t :: ts, s, g, hs, h => by
    unfold datT at h
    split at h
    · rename_i e ty ht
      have hv := hs.tm t
      rw [ht] at hv
      have hx : a.tmps.getD t undef = .slice none 0 0 := (one_inv hv).2
      refine datT_ok ts (hs.setTm ?_) h
      rw [hx]
      exact sv1_ok rfl ⟨none, 0, rfl, le2_0, fun i x hx => by simp at hx⟩
    · obtain ⟨s1, g1, h1, h⟩ := frzAll_ok _ hs h
      exact datT_ok ts h1 h
    · exact datT_ok ts hs h
theorem datB_ok {K : St → Prop} : ∀ (is : List Nat) {s : St} {g : Gh}, Sim w0 M n s a w g → datB s is K → ∃ s' g', Sim w0 M n s' a w g' ∧ K s'
  | [], s, g, hs, h => ⟨s, g, hs, h⟩
  | i :: is, s, g, hs, h => by
    unfold datB at h
    split at h
    · obtain ⟨s1, g1, h1, h⟩ := frzAll_ok _ hs h
      split at h
      · rename_i b' hb'
        refine datB_ok is (h1.setCs hb' (fun arr hr => ?_)) h
        have key : ∀ {cs : List CV} {vs : List Value}, CRs w g1 s1 cs vs → CRs w g1 s1 (cs.map CV.nilD) vs := by
          intro cs
          induction cs with
          | nil => intro vs h; cases vs with | nil => exact trivial | cons _ _ => exact h.elim
          | cons c cs ih =>
            intro vs h
            cases vs with
            | nil => exact h.elim
            | cons v vs =>
              refine ⟨⟨h.1.1, ?_⟩, ih h.2⟩
              have hc := h.1.2
              cases c with
              | nil e ty =>
                rw [show v = _ from hc]
                exact ⟨none, 0, rfl, le2_0, fun i x hx => by simp at hx⟩
              | _ => exact hc
        exact key hr
      · exact h.elim
    · exact h.elim
theorem normE_ok {pins : List Nat} {sp : Spec} {K : St → Prop} (hpn : ∀ p ∈ M.pin, p.1 ∈ pins) (hs : Sim w0 M n s a w g) (h : normE pins sp s K) : ∃ s' g', Sim w0 M n s' a w g' ∧ K s' := by
  unfold normE at h
  obtain ⟨s0, g0, hs, h⟩ := datT_ok _ hs h
  obtain ⟨s00, g00, hs, h⟩ := datB_ok _ hs h
  cases hp : pins.all (memB sp.bxs) with
  | false => rw [hp] at h; exact h.elim
  | true =>
  rw [hp] at h
  dsimp only [cond] at h
  obtain ⟨s1, g1, h1, h⟩ := renT_ok _ hs h
  obtain ⟨s2, g2, h2, h⟩ := renB_ok _ h1 h
  obtain ⟨bl, h, b1, b2⟩ := getAll_ok h
  obtain ⟨rl, h, r1, r2⟩ := getAll_ok h
  obtain ⟨ml, h, m1, m2⟩ := getAll_ok h
  obtain ⟨g3, h3⟩ := h2.keepOnly (tms := sp.tms) m1 m2 b1 b2 r1 r2 (fun p hp' => memB_iff.1 (List.all_eq_true.1 hp _ (hpn p hp')))
  exact ⟨_, g3, h3, h⟩
end
end Go.Ab
