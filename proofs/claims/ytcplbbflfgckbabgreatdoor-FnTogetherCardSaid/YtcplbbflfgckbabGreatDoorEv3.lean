/- Structs and arrays compared; texts out of rows of bytes. No conditions. -/
import Derived.Laws.StructEq
import Derived.Laws.BytesArg
import Derived.Lib.ConvBytes
import Derived.Orders
import Derived.Deep.Quiet
import Derived.Test.YtcplbbflfgckbabGreatDoorEv1
import Derived.Test.YtcplbbflfgckbabGreatDoorEv2
set_option linter.unusedVariables false
set_option linter.unusedSimpArgs false
namespace Go.Ab
open Go
/-- The parts of two values, compared; e: whether they are equal, n: whether not. -/
def eqFs (one : Nat × TypeId → (Bool → Bool → Prop) → Prop) : List (Nat × TypeId) → (Bool → Bool → Prop) → Prop
  | [], K => K true false
  | [f], K => one f K
  | f :: fs, K => one f fun e n => eqFs one fs fun e' n' => K (e && e') (n || n')
def eqK (T : Tab) : Nat → TypeId → List CV → List CV → (Bool → Bool → Prop) → Prop
  | 0, _, _, _, _ => False
  | d + 1, t, xs, ys, K => match T.get t with
    | none => False
    | some i => match i.d, xs, ys with
      | .struct fs, xs, ys => bif i.eq then eqFs (fun f K => match T.get f.2 with
          | some fi => bif (fi.d.agg || Nat.beq fi.size 1) && (Nat.ble (f.1 + fi.size) xs.length && Nat.ble (f.1 + fi.size) ys.length) then eqK T d f.2 ((xs.drop f.1).take fi.size) ((ys.drop f.1).take fi.size) K else False
          | none => False) fs K else False
      | .array n e, xs, ys => match T.get e with
          | some ei => bif ei.d.agg || Nat.beq ei.size 1 then eqFs (fun f K => bif Nat.ble (f.1 * ei.size + ei.size) xs.length && Nat.ble (f.1 * ei.size + ei.size) ys.length then eqK T d e ((xs.drop (f.1 * ei.size)).take ei.size) ((ys.drop (f.1 * ei.size)).take ei.size) K else False) ((List.range n).map fun j => (j, e)) K else False
          | none => False
      | .int _, [.dat (.int k) a], [.dat (.int k') b] => if k = k' then K (a == b) (!(a == b)) else False
      | .bool, [.dat .bool a], [.dat .bool b] => K (a == b) (!(a == b))
      | .str, [.dat .str a], [.dat .str b] => K (a.toList == b.toList) (!(a.toList == b.toList))
      | _, _, _ => False
def binE2 (T : Tab) (op : BinOp) (t : TypeId) (x y : AV) (K : AV → Prop) : Prop :=
  match x, y with
  | .sv true xs, .sv true ys => match T.get t, op with
    | some i, .eql => bif i.eq && i.d.agg then eqK T 9 t xs ys fun e _ => K (bool1 e) else False
    | some i, .neq => bif i.eq && i.d.agg then eqK T 9 t xs ys fun _ n => K (bool1 n) else False
    | _, _ => False
  | x, y => binE T op t x y K
section
variable {P : Program} {T : Tab} {w0 w w' : World} {M : Mv} {n : Nat} {s s' : St} {a : Act} {g g' : Gh}
theorem eqFs_ok {one : Nat × TypeId → (Bool → Bool → Prop) → Prop} {D : Nat} {xs ys : Array Value} (hone : ∀ f K, one f K → ∃ e, K e (!e) ∧ ∃ a b, ∀ w2 : World, (part f.2 xs f.1).run P w2 = .ok a w2 ∧ (part f.2 ys f.1).run P w2 = .ok b w2 ∧ (Op.equalIn D f.2 a b).run P w2 = .ok e w2) :
    ∀ (fs : List Field) {K : Bool → Bool → Prop}, (∀ f ∈ fs, f.name ≠ "_") → eqFs one (fs.map fun f => (f.offset, f.type)) K → ∃ e, K e (!e) ∧ ∀ w2 : World, (Op.eqFields D xs ys fs).run P w2 = .ok e w2
  | [], K, _, h => ⟨true, h, fun w2 => by simp [Op.eqFields]⟩
  | [f], K, hn, h => by
    obtain ⟨e, h1, a, b, h2⟩ := hone _ _ h
    refine ⟨e, h1, fun w2 => ?_⟩
    simp only [Op.eqFields, if_pos (hn f (by simp)), Sem.run_bind, (h2 w2).1, (h2 w2).2.1, (h2 w2).2.2, Result.andThen_ok]
    cases e <;> simp
  | f :: f2 :: fs, K, hn, h => by
    obtain ⟨e, h1, a, b, h2⟩ := hone _ _ h
    obtain ⟨e', k1, k2⟩ := eqFs_ok hone (f2 :: fs) (K := fun e' n' => K (e && e') (!e || n')) (fun f hf => hn f (List.mem_cons_of_mem _ hf)) h1
    refine ⟨e && e', by rw [Bool.not_and]; exact k1, fun w2 => ?_⟩
    rw [Op.eqFields]
    simp only [if_pos (hn f (by simp)), Sem.run_bind, (h2 w2).1, (h2 w2).2.1, (h2 w2).2.2, Result.andThen_ok]
    cases e
    · simp
    · simpa using k2 w2
theorem eqIt_ok {one : Nat × TypeId → (Bool → Bool → Prop) → Prop} {D c : Nat} {t : TypeId} {xs ys : Array Value} (hone : ∀ j K, one (j, t) K → ∃ e, K e (!e) ∧ ∃ a b, ∀ w2 : World, (part t xs (j * c)).run P w2 = .ok a w2 ∧ (part t ys (j * c)).run P w2 = .ok b w2 ∧ (Op.equalIn D t a b).run P w2 = .ok e w2) :
    ∀ (is : List Nat) {K : Bool → Bool → Prop}, eqFs one (is.map fun j => (j, t)) K → ∃ e, K e (!e) ∧ ∀ w2 : World, (Op.eqItems D t c xs ys is).run P w2 = .ok e w2
  | [], K, h => ⟨true, h, fun w2 => by simp [Op.eqItems]⟩
  | [f], K, h => by
    obtain ⟨e, h1, a, b, h2⟩ := hone _ _ h
    refine ⟨e, h1, fun w2 => ?_⟩
    simp only [Op.eqItems, Sem.run_bind, (h2 w2).1, (h2 w2).2.1, (h2 w2).2.2, Result.andThen_ok]
    cases e <;> simp
  | f :: f2 :: fs, K, h => by
    obtain ⟨e, h1, a, b, h2⟩ := hone _ _ h
    obtain ⟨e', k1, k2⟩ := eqIt_ok hone (f2 :: fs) (K := fun e' n' => K (e && e') (!e || n')) h1
    refine ⟨e && e', by rw [Bool.not_and]; exact k1, fun w2 => ?_⟩
    rw [Op.eqItems]
    simp only [Sem.run_bind, (h2 w2).1, (h2 w2).2.1, (h2 w2).2.2, Result.andThen_ok]
    cases e
    · simp
    · simpa using k2 w2
theorem eqK_ok (hT : T.Good P) : ∀ (d : Nat) {t : TypeId} {xs ys : List CV} {K : Bool → Bool → Prop} {i : TI} {u v : Value} {D : Nat}, eqK T d t xs ys K → T.get t = some i → VR w g s (.sv i.d.agg xs) u → VR w g s (.sv i.d.agg ys) v → d ≤ D → ∃ e, K e (!e) ∧ ∀ w2 : World, (Op.equalIn D t u v).run P w2 = .ok e w2
  | 0, _, _, _, _, _, _, _, _, h, _, _, _, _ => h.elim
  | d + 1, t, xs, ys, K, i, u, v, D, h, hi, hu, hv, hd => by
    obtain ⟨D, rfl⟩ : ∃ D', D = D' + 1 := ⟨D - 1, by omega⟩
    unfold eqK at h
    rw [hi] at h
    dsimp only at h
    obtain ⟨dd, h1, h2⟩ := (hT.get hi).under
    split at h
    · rename_i xs ys x1 x2 x3 fs hfs
      cases he : i.eq with
      | false => rw [he] at h; exact h.elim
      | true =>
      rw [he] at h
      rw [hfs] at hu hv h2
      obtain ⟨arr, rfl, hf⟩ := TD.of_struct h2
      obtain ⟨e1, e2, e3⟩ := (hT.get hi).eq he
      have hfo : P.fieldsOf t = arr := by simp [Program.fieldsOf, h1]
      obtain ⟨ax, rfl, hx⟩ := hu
      obtain ⟨ay, rfl, hy⟩ := hv
      have heq : ∀ w2 : World, (Op.equalIn (D + 1) t (.agg ax) (.agg ay)).run P w2 = (Op.eqFields D ax ay arr.toList).run P w2 := fun w2 => by rw [run_equalIn_struct w2 D t ax ay (by rw [hfo]; exact h1) e1, hfo]
      simp only [heq]
      rw [hfo] at e3
      rw [← hf] at h
      refine eqFs_ok (fun f K hone => ?_) arr.toList (fun f hf => ?_) h
      · split at hone
        · rename_i fi hfi
          cases hc : (fi.d.agg || Nat.beq fi.size 1) && (Nat.ble (f.1 + fi.size) xs.length && Nat.ble (f.1 + fi.size) ys.length) with
          | false => rw [hc] at hone; exact hone.elim
          | true =>
          rw [hc] at hone
          rw [Bool.and_eq_true, Bool.and_eq_true] at hc
          obtain ⟨a, k1, k2⟩ := part_run (P := P) (hT.get hfi) hx hc.1 (Nat.le_of_ble_eq_true hc.2.1)
          obtain ⟨b, k3, k4⟩ := part_run (P := P) (hT.get hfi) hy hc.1 (Nat.le_of_ble_eq_true hc.2.2)
          obtain ⟨e, m1, m2⟩ := eqK_ok hT d (D := D) hone hfi k2 k4 (by omega)
          exact ⟨e, m1, a, b, fun w2 => ⟨k1 w2, k3 w2, m2 w2⟩⟩
        · exact hone.elim
      · have := Array.all_eq_true'.1 e3 f (by simpa using hf)
        simpa using this
    · rename_i xs ys x1 x2 x3 n e hfs
      split at h
      · rename_i ei hei
        cases hc0 : ei.d.agg || Nat.beq ei.size 1 with
        | false => rw [hc0] at h; exact h.elim
        | true =>
        rw [hc0] at h
        rw [hfs] at hu hv h2
        obtain rfl := TD.of_array h2
        obtain ⟨ax, rfl, hx⟩ := hu
        obtain ⟨ay, rfl, hy⟩ := hv
        obtain ⟨inf, f1, f2, _, _⟩ := (hT.get hei).inf
        have heq : ∀ w2 : World, (Op.equalIn (D + 1) t (.agg ax) (.agg ay)).run P w2 = (Op.eqItems D e (P.cellsOf e) ax ay (List.range n)).run P w2 := fun w2 => run_equalIn_array w2 D ax ay h1 f1
        simp only [heq]
        have hcs : P.cellsOf e = ei.size := by
          rw [← f2]
          simp [Program.cellsOf, f1]
        rw [hcs]
        refine eqIt_ok (fun j K hone => ?_) (List.range n) h
        cases hc : Nat.ble (j * ei.size + ei.size) xs.length && Nat.ble (j * ei.size + ei.size) ys.length with
        | false => dsimp only at hone; rw [hc] at hone; exact hone.elim
        | true =>
        dsimp only at hone
        rw [hc] at hone
        rw [Bool.and_eq_true] at hc
        obtain ⟨a, k1, k2⟩ := part_run (P := P) (hT.get hei) hx hc0 (Nat.le_of_ble_eq_true hc.1)
        obtain ⟨b, k3, k4⟩ := part_run (P := P) (hT.get hei) hy hc0 (Nat.le_of_ble_eq_true hc.2)
        obtain ⟨r, m1, m2⟩ := eqK_ok hT d (D := D) hone hei k2 k4 (by omega)
        exact ⟨r, m1, a, b, fun w2 => ⟨k1 w2, k3 w2, m2 w2⟩⟩
      · exact h.elim
    · rename_i k0 k a k' b hfs
      split at h
      · rename_i hk
        subst hk
        rw [hfs] at hu hv h2
        rw [TD.of_int h2] at h1
        obtain rfl := VR.int hu
        obtain rfl := VR.int hv
        exact ⟨_, h, fun w2 => run_equalIn_int w2 D t k k0 a b h1⟩
      · exact h.elim
    · rename_i a b hfs
      rw [hfs] at hu hv h2
      rw [TD.of_bool h2] at h1
      obtain rfl := VR.bool hu
      obtain rfl := VR.bool hv
      exact ⟨_, h, fun w2 => run_equalIn_bool' w2 D t a b h1⟩
    · rename_i a b hfs
      rw [hfs] at hu hv h2
      rw [TD.of_str h2] at h1
      obtain rfl := VR.str hu
      obtain rfl := VR.str hv
      exact ⟨_, h, fun w2 => run_equalIn_string w2 D t a b h1⟩
    · exact h.elim
theorem binE2_ok {K : AV → Prop} (hT : T.Good P) {op : BinOp} {t : TypeId} {x y : AV} {vx vy : Value} (h : binE2 T op t x y K) (hx : VR w g s x vx) (hy : VR w g s y vy) (X Y : Operand) :
    ∃ av v, K av ∧ VR w g s av v ∧ ∀ w2 : World, (eqGuard op t X Y vx vy).run P w2 = .ok () w2 ∧ (binOp op t vx vy).run P w2 = .ok v w2 := by
  unfold binE2 at h
  split at h
  · rename_i xs ys
    have key : ∀ {i : TI} {K' : Bool → Bool → Prop}, T.get t = some i → (i.eq && i.d.agg) = true → eqK T 9 t xs ys K' → ∃ e, K' e (!e) ∧ ∃ ax ay, vx = .agg ax ∧ vy = .agg ay ∧ P.eqGuardType P.depth t = false ∧ ∀ w2 : World, (Op.equalIn 10000 t (.agg ax) (.agg ay)).run P w2 = .ok e w2 := fun {i K'} hi he hk => by
      rw [Bool.and_eq_true] at he
      obtain ⟨e, k1, k2⟩ := eqK_ok (D := 10000) hT 9 hk hi (by rw [he.2]; exact hx) (by rw [he.2]; exact hy) (by omega)
      obtain ⟨ax, rfl, _⟩ := hx
      obtain ⟨ay, rfl, _⟩ := hy
      exact ⟨e, k1, ax, ay, rfl, rfl, ((hT.get hi).eq he.1).2.1, k2⟩
    split at h
    · rename_i i hi
      cases he : i.eq && i.d.agg with
      | false => rw [he] at h; exact h.elim
      | true =>
      rw [he] at h
      obtain ⟨e, h1, ax, ay, rfl, rfl, h2, h3⟩ := key hi he h
      refine ⟨_, _, h1, bool1_ok _, fun w2 => ⟨run_eqGuard_agg w2 _ t X Y ax ay h2, ?_⟩⟩
      rw [run_eql_struct w2 t ax ay, h3 w2]; rfl
    · rename_i i hi
      cases he : i.eq && i.d.agg with
      | false => rw [he] at h; exact h.elim
      | true =>
      rw [he] at h
      obtain ⟨e, h1, ax, ay, rfl, rfl, h2, h3⟩ := key hi he h
      refine ⟨_, _, h1, bool1_ok _, fun w2 => ⟨run_eqGuard_agg w2 _ t X Y ax ay h2, ?_⟩⟩
      rw [run_neq_struct w2 t ax ay, h3 w2]; rfl
    · exact h.elim
  · exact binE_ok hT h hx hy X Y
end
/-! ### texts and rows of bytes -/
/-- 0: a number or a text out of one; 1: a text out of a row; 2: a row out of a text. -/
def cvK (T : Tab) (src dst : TypeId) : Nat :=
  match T.get src, T.get dst with
  | some a, some b => match a.d, b.d with
    | .slice _, _ => 1
    | .str, .slice _ => 2
    | _, _ => 0
  | _, _ => 0
def convB (T : Tab) (src dst : TypeId) (x : AV) (s : St) (K : AV → Prop) : Prop :=
  match T.get src, T.get dst, x with
  | some a, some b, .sv false [c] => match a.d, b.d, c.row s with
    | .slice e, .str, some ⟨.int .u8, xs⟩ => match T.get e with
      | some ei => match ei.d with
        | .int .u8 => K (str1 (strOfNums xs))
        | _ => False
      | none => False
    | _, _, _ => False
  | _, _, _ => False
def convS (T : Tab) (src dst : TypeId) (x : AV) (s : St) (K : AV → St → Prop) : Prop :=
  match T.get src, T.get dst, x with
  | some _, some b, .sv false [.dat .str t] => match b.d with
    | .slice e => match T.get e with
      | some ei => match ei.d with
        | .int .u8 => Need (t.size ≤ 9223372036854775807) (K (sv1 (.dat (.row e (.int .u8)) (Pw.bytesOf t))) s)
        | _ => False
      | none => False
    | _ => False
  | _, _, _ => False
section
variable {P : Program} {T : Tab} {w0 w w' : World} {M : Mv} {n : Nat} {s s' : St} {a : Act} {g g' : Gh}
theorem cks_bytes {ok : Nat → Prop} : ∀ {xs : List Int} {cs : List Value}, CKs w ok (.int .u8) xs cs → cs = xs.map (Value.int .u8)
  | [], cs, h => h
  | x :: xs, cs, ⟨c1, c2, e, h1, h2⟩ => by rw [e, cks_bytes h2, show c1 = [.int .u8 x] from h1]; rfl
theorem convB_ok {K : AV → Prop} (hT : T.Good P) (hs : Sim w0 M n s a w g) {src dst : TypeId} {x : AV} {vx : Value} (h : convB T src dst x s K) (hx : VR w g s x vx) : ∃ av u, K av ∧ VR w g s av u ∧ (convert src dst vx).run P w = .ok u w := by
  unfold convB at h
  split at h
  · rename_i ta tb c hta htb
    split at h
    · rename_i e xs hda hdb hrow
      split at h
      · rename_i ei hei
        split at h
        · rename_i hed
          obtain ⟨d1, u1, v1⟩ := (hT.get hta).under
          obtain ⟨d2, u2, v2⟩ := (hT.get htb).under
          obtain ⟨d3, u3, v3⟩ := (hT.get hei).under
          rw [hda] at v1; rw [hdb] at v2; rw [hed] at v3
          obtain rfl := TD.of_slice v1
          obtain rfl := TD.of_str v2
          obtain rfl := TD.of_int v3
          obtain ⟨A, cp, cs, rfl, h2, h3⟩ := row_cells hs hrow (one_inv hx).2
          have hcs := cks_bytes h2
          refine ⟨_, .string (strOfNums xs), h, str1_ok _, ?_⟩
          rw [run_convert_bytes_string w src dst e A _ cp u1 u3 u2]
          cases A with
          | none =>
            have h0 : xs = [] := by
              cases xs with
              | nil => rfl
              | cons x xs =>
                rw [hcs] at h3
                obtain ⟨ad, e, _⟩ := h3 0 _ rfl
                cases e
            subst h0
            rfl
          | some ad =>
            have hl : (loadCells ad xs.length).run P w = .ok (xs.map (Value.int .u8)).toArray w := by
              have := run_loadCells_list (P := P) w ad (xs.map (Value.int .u8)) (fun j u hj => by
                rw [← hcs] at hj
                obtain ⟨ad', e, k⟩ := h3 j u hj
                cases e
                exact k)
              simpa using this
            rw [run_bytesToString w ad _ cp xs hl, foldl_push_bytes]
            simp [strOfNums, ByteArray.empty, ByteArray.emptyWithCapacity]
            rfl
        · exact h.elim
      · exact h.elim
    · exact h.elim
  · exact h.elim
theorem convS_ok {K : AV → St → Prop} (hT : T.Good P) (hs : Sim w0 M n s a w g) {src dst : TypeId} {x : AV} {vx : Value} (h : convS T src dst x s K) (hx : VR w g s x vx) : ∃ av s', K av s' ∧ ∃ v w' g', (convert src dst vx).run P w = .ok v w' ∧ Sim w0 M n s' a w' g' ∧ VR w' g' s' av v := by
  unfold convS at h
  split at h
  · rename_i ta tb t hta htb
    split at h
    · rename_i e hdb
      split at h
      · rename_i ei hei
        split at h
        · rename_i hed
          obtain ⟨hsz, h⟩ := h
          obtain ⟨d1, u1, v1⟩ := (hT.get hta).under
          obtain ⟨d2, u2, v2⟩ := (hT.get htb).under
          obtain ⟨d3, u3, v3⟩ := (hT.get hei).under
          rw [hdb] at v2; rw [hed] at v3
          obtain rfl := TD.of_slice v2
          obtain rfl := TD.of_int v3
          obtain rfl := VR.str hx
          have hg : w.grownBy (Lib.bytesWorld w e t) none := ⟨rfl, rfl, rfl, by rw [Lib.bytesWorld_size]; omega, fun k hk _ => Lib.bytesWorld_at_old w e t k hk⟩
          let g' : Gh := { g with lab := fset g.lab w.heap.size .fz }
          have he : Ext s g w s g' (Lib.bytesWorld w e t) := ext_new hs hg (g' := g') (L := .fz) rfl (fun _ _ => ⟨rfl, rfl, rfl⟩) (fun _ _ => ⟨rfl, rfl⟩)
          refine ⟨_, _, h, _, _, g', Lib.run_convert_string_bytes w src dst e t u1 u2 u3, hs.new hg (Lib.bytesWorld_size w e t) (L := .fz) (by simp) rfl he rfl (fun j b hb => .inl ⟨hb, rfl⟩) (fun j r hr => .inl ⟨hr, rfl, rfl⟩), sv1_ok rfl ⟨_, _, by rw [show (Pw.bytesOf t).length = t.size from List.length_map _], ?_, fun i x hx => ?_⟩⟩
          · rw [show (Pw.bytesOf t).length = t.size from List.length_map _]
            exact ⟨grownCap_ge w _ 0 e, hsz⟩
          · have hi : i < t.size := by
              have := (List.getElem?_eq_some_iff.1 hx).1
              rwa [show (Pw.bytesOf t).length = t.size from List.length_map _] at this
            refine ⟨_, rfl, .inr (fset_same _ _ _), [.int .u8 x], rfl, fun j u hu => ?_⟩
            cases j with
            | succ j => simp at hu
            | zero =>
              cases hu
              have hadd : (⟨w.heap.size, 0, none⟩ : Addr).add (i * 1 + 0) = ⟨w.heap.size, i, none⟩ := by unfold Addr.add; split <;> simp_all
              show (Lib.bytesWorld w e t).cell? ((⟨w.heap.size, 0, none⟩ : Addr).add (i * 1 + 0)) = _
              rw [hadd, Lib.bytesWorld_cell w e t i hi]
              have : x = (((t.data.toList.getD i 0).toNat : Nat) : Int) := by
                have hx' : (t.data.toList.map fun b => (b.toNat : Int))[i]? = some x := hx
                rw [List.getElem?_map] at hx'
                obtain ⟨b, hb, rfl⟩ := Option.map_eq_some_iff.1 hx'
                rw [List.getD_eq_getElem?_getD, hb]; rfl
              rw [this]
        · exact h.elim
      · exact h.elim
    · exact h.elim
  · exact h.elim
end
end Go.Ab
/- An operation, told; and that it does as told. No conditions. -/
namespace Go.Ab
open Go
@[reducible] def brB (x : Bool) (A B : Prop) : Prop := match x with | true => A | false => B
def capIds : List AV → Option (List Nat)
  | [] => some []
  | .sv false [.ptr id off] :: vs => bif Nat.beq off 0 then (match capIds vs with | some ids => some (id :: ids) | none => none) else none
  | _ => none
def fstE (s : St) : List AV → Option (List (Bool × List TV))
  | [] => some []
  | .sv agg cs :: vs => bif noSub cs then match tvs s cs with
      | some xs => match fstE s vs with
        | some l => some ((agg, xs) :: l)
        | none => none
      | none => none
    else none
  | _ => none
def oSome (f : Operand → AV) : Option Operand → Option AV
  | none => none
  | some x => some (f x)
def opE (T : Tab) (C : CTab) (o : Oper) (s : St) (K : AV → St → Prop) : Prop :=
  match o.op with
  | .move x => K (opnd T o.type s x) s
  | .assign x => K (opnd T o.type s x) s
  | .pick c a b => match opnd T o.type s c with
    | .sv false [.dat .bool x] => brB x (K (opnd T o.type s a) s) (K (opnd T o.type s b) s)
    | _ => False
  | .alloc e => match o.dst with | some d => allocE T d e s K | none => False
  | .box e x => match o.dst with | some d => boxE d e (opnd T e s x) s K | none => False
  | .build t parts => buildE T t parts.toList s (fun av => K av s)
  | .buildSlice t len parts => match o.dst with | some d => bldSliceE T d t len parts.toList s K | none => False
  | .load t x => loadE T t s (opnd T t s x) (fun av => K av s)
  | .store t x v => storeE T t (opnd T t s x) (opnd T t s v) s (fun s' => K .un s')
  | .nilCheck x => nilChkE (opnd T o.type s x) (fun av => K av s)
  | .binOp op t x y _ => binE2 T op t (opnd T t s x) (opnd T t s y) (fun av => K av s)
  | .unOp op _ x => unE op (opnd T o.type s x) (fun av => K av s)
  | .convert src dst x => match cvK T src dst with
    | 0 => convE T src dst (opnd T src s x) (fun av => K av s)
    | 1 => convB T src dst (opnd T src s x) s (fun av => K av s)
    | _ => convS T src dst (opnd T src s x) s K
  | .slice t x lo hi none => sliceE T t (opnd T t s x) (oSome (opnd T 0 s) lo) (oSome (opnd T 0 s) hi) s (fun av => K av s)
  | .fieldAddr st x f => fldAddrE T s st (opnd T st s x) f (fun av => K av s)
  | .field t x f => fieldE T t (opnd T t s x) f (fun av => K av s)
  | .indexAddr t x i => idxAddrE T t s (opnd T t s x) (opnd T 0 s i) (fun av => K av s)
  | .index t x i => indexE T t (opnd T t s x) (opnd T 0 s i) (fun av => K av s)
  | .extract x i => extractE (opnd T o.type s x) i (fun av => K av s)
  | .makeSlice t l c => match o.dst with | some d => mkE T d t (opnd T 0 s l) (opnd T 0 s c) s K | none => False
  | .makeFunc (.func f) first caps => frzAll s (first.toList.flatMap fun x => (opnd T 0 s x).cellsD) fun s1 => match fstE s1 (first.toList.map (opnd T 0 s1)), capIds (caps.toList.map (opnd T 0 s1)) with
    | some fst, some ids => K (sv1 (.fn f fst ids)) s1
    | _, _ => False
  | .makeMap t none => match o.dst with | some d => mkMapE T d t s K | none => False
  | .mapUpdate t m x v => putMapE T t (opnd T 0 s m) (opnd T 0 s x) (opnd T 0 s v) s (fun s' => K .un s')
  | .lookup t m x false => lookE T t (opnd T 0 s m) (opnd T 0 s x) s (fun av => K av s)
  | .call c => match c.callee with
    | .builtin .len => match c.args.toList, c.argTypes.toList with
      | [x], [t] => lenE T t (opnd T t s x) s (fun av => K av s)
      | _, _ => False
    | .builtin .append => match c.args.toList, c.argTypes.toList, o.dst with
      | [x, y], [t, t'], some d => appE T d t t' (opnd T t s x) (opnd T t' s y) s K
      | _, _, _ => False
    | .builtin .clear => match c.args.toList, c.argTypes.toList with
      | [x], [t] => clearE T t (opnd T t s x) s K
      | _, _ => False
    | .builtin .max => match c.args.toList with
      | [x, y] => maxE true (opnd T 0 s x) (opnd T 0 s y) (fun av => K av s)
      | _ => False
    | .builtin .min => match c.args.toList with
      | [x, y] => maxE false (opnd T 0 s x) (opnd T 0 s y) (fun av => K av s)
      | _ => False
    | .value (.func f) => match C.c f with
      | some con => match o.dst with
        | some d => bif Nat.beq c.args.toList.length c.argTypes.toList.length then callE T C con d (c.args.toList.zip c.argTypes.toList) s K else False
        | none => False
      | none => False
    | .value (.tmp x) => match s.tm x, o.dst with
      | .sv false [.fnp j], some d => match C.fs[j]? with
        | some q => bif Nat.beq c.args.toList.length c.argTypes.toList.length then callE T C (conOf q) d (c.args.toList.zip c.argTypes.toList) s K else False
        | none => False
      | _, _ => False
    | _ => False
  | _ => False
section
variable {P : Program} {T : Tab} {C : CTab} {w0 w w' : World} {M : Mv} {n : Nat} {s s' : St} {a : Act} {g g' : Gh}
/-- Operations that yield the same in whatever world. -/
def pureOp (T : Tab) : Op → Bool
  | .convert s d _ => Nat.beq (cvK T s d) 0
  | .move _ | .assign _ | .pick _ _ _ | .build _ _ | .binOp _ _ _ _ _ | .unOp _ _ _ | .slice _ _ _ _ _ | .fieldAddr _ _ _ | .field _ _ _ | .indexAddr _ _ _ | .index _ _ _ | .extract _ _ => true
  | .call c => match c.callee with | .builtin .len | .builtin .max | .builtin .min => true | _ => false
  | _ => false
/-- The operation's end. -/
def Goes (P : Program) (w0 : World) (M : Mv) (n : Nat) (o : Oper) (a : Act) (w : World) (av : AV) (s' : St) : Prop :=
  ∀ (next : Act → World → Prop) (Q : Exit → Act → World → Prop), (∀ v w' g', Sim w0 M n s' a w' g' → VR w' g' s' av v → next (a.put o.dst v) w') → o.wp P a w next Q
theorem goes_val {o : Oper} {av : AV} {s' : St} {v : Value} {w' : World} {g' : Gh} (hr : (execOp a.eval o).run P w = .ok (.value v) w') (hs : Sim w0 M n s' a w' g') (hv : VR w' g' s' av v) : Goes P w0 M n o a w av s' := fun next Q h => by
  unfold Oper.wp
  rw [hr]
  exact h v w' g' hs hv
def PureGoes (P : Program) (w : World) (g : Gh) (s : St) (o : Oper) (a : Act) (av : AV) : Prop := ∃ v, (∀ w2 : World, (execOp a.eval o).run P w2 = .ok (.value v) w2) ∧ VR w g s av v
theorem goes_pure {T : Tab} {o : Oper} {av : AV} {v : Value} (hr : ∀ w2 : World, (execOp a.eval o).run P w2 = .ok (.value v) w2) (hs : Sim w0 M n s a w g) (hv : VR w g s av v) : Goes P w0 M n o a w av s ∧ (pureOp T o.op = true → s = s ∧ PureGoes P w g s o a av) :=
  ⟨goes_val (hr w) hs hv, fun _ => ⟨rfl, v, hr, hv⟩⟩
theorem goes_np {T : Tab} {o : Oper} {av : AV} {s' : St} (hp : pureOp T o.op = false) (h : Goes P w0 M n o a w av s') : Goes P w0 M n o a w av s' ∧ (pureOp T o.op = true → s' = s ∧ PureGoes P w g s o a av) :=
  ⟨h, fun h' => by rw [hp] at h'; cases h'⟩
theorem capIds_ok (hs : Sim w0 M n s a w g) : ∀ {xs : List Operand} {ids : List Nat}, capIds (xs.map (opnd T 0 s)) = some ids → (∀ id ∈ ids, s.bx id ≠ none) ∧ xs.map a.eval = ids.map fun id => Value.pointer (some ⟨g.bb id, 0, none⟩)
  | [], ids, h => by cases h; exact ⟨fun id h => (by cases h), rfl⟩
  | x :: xs, ids, h => by
    rw [List.map_cons] at h
    have hx := opnd_ok (T := T) hs 0 x
    generalize opnd T 0 s x = av at h hx
    unfold capIds at h
    split at h
    · rename_i e; cases e
    · rename_i id off vs e
      cases e
      cases ho : Nat.beq off 0 with
      | false => rw [ho] at h; cases h
      | true =>
      rw [ho] at h
      obtain rfl := Nat.eq_of_beq_eq_true ho
      dsimp only [cond] at h
      split at h
      · rename_i ids' he
        cases h
        obtain ⟨h1, h2⟩ := capIds_ok hs he
        obtain ⟨_, h3, h4⟩ := one_inv hx
        refine ⟨fun j hj => ?_, by rw [List.map_cons, List.map_cons, h4, h2]⟩
        rcases List.mem_cons.1 hj with rfl | hj
        · exact h3
        · exact h1 j hj
      · cases h
    · cases h
theorem fstE_ok (hs : Sim w0 M n s a w g) : ∀ {xs : List Operand} {l : List (Bool × List TV)}, fstE s (xs.map (opnd T 0 s)) = some l → FstIn w (okL g.lab) l (xs.map a.eval)
  | [], l, h => by cases h; exact trivial
  | x :: xs, l, h => by
    rw [List.map_cons] at h
    have hx := opnd_ok (T := T) hs 0 x
    generalize opnd T 0 s x = av at h hx
    cases av with
    | sv agg cs =>
      unfold fstE at h
      cases hn : noSub cs with
      | false => rw [hn] at h; cases h
      | true =>
      rw [hn] at h
      dsimp only [cond] at h
      split at h
      · rename_i ys hys
        split at h
        · rename_i l' hl'
          cases h
          refine ⟨?_, fstE_ok hs hl'⟩
          have ht : ∀ {vs : List Value}, CRs w g s cs vs → CellIn w (okL g.lab) ys vs := fun hr => tvs_rel (shr := true) (mv := []) hs (fun _ h => h) (fun h => by cases h) hys hr (noSub_okC hn)
          cases agg with
          | true => obtain ⟨arr, e, h⟩ := hx; exact ⟨arr, e, ht h⟩
          | false => exact ht (vs := [_]) hx
        · cases h
      · cases h
    | _ => cases h
theorem oRel (hs : Sim w0 M n s a w g) (x : Option Operand) : ORel w g s (oSome (opnd T 0 s) x) (x.map a.eval) := by
  cases x with
  | none => trivial
  | some x => exact opnd_ok hs 0 x
theorem opE_ok {K : AV → St → Prop} (hT : T.Good P) (hC : C.Ok P w0 M) (hs : Sim w0 M n s a w g) {o : Oper} (h : opE T C o s K) : ∃ av s', K av s' ∧ Goes P w0 M n o a w av s' ∧ (pureOp T o.op = true → s' = s ∧ PureGoes P w g s o a av) := by
  unfold opE at h
  split at h
  · rename_i x ho
    exact ⟨_, _, h, goes_pure (fun w2 => by unfold execOp; rw [ho]; rfl) hs (opnd_ok hs _ x)⟩
  · rename_i x ho
    exact ⟨_, _, h, goes_pure (fun w2 => by unfold execOp; rw [ho]; rfl) hs (opnd_ok hs _ x)⟩
  · rename_i c x y ho
    split at h
    · rename_i b hb
      have hc := opnd_ok (T := T) hs o.type c
      rw [hb] at hc
      have hc' := VR.bool hc
      cases b with
      | true => exact ⟨_, _, h, goes_pure (fun w2 => by unfold execOp; rw [ho]; simp [hc', asBool]) hs (opnd_ok hs _ x)⟩
      | false => exact ⟨_, _, h, goes_pure (fun w2 => by unfold execOp; rw [ho]; simp [hc', asBool]) hs (opnd_ok hs _ y)⟩
    · exact h.elim
  · rename_i e ho
    split at h
    · rename_i d hd
      obtain ⟨av, s', h1, v, w', g', h2, h3, h4⟩ := allocE_ok hT hs h
      exact ⟨av, s', h1, goes_np (by rw [ho]; rfl) (goes_val (by unfold execOp; simp only [ho, Sem.run_bind, h2, Result.andThen_ok]; rfl) h3 h4)⟩
    · exact h.elim
  · rename_i e x ho
    split at h
    · rename_i d hd
      obtain ⟨av, s', h1, v, w', g', h2, h3, h4⟩ := boxE_ok (P := P) hs h (opnd_ok hs _ x)
      exact ⟨av, s', h1, goes_np (by rw [ho]; rfl) (goes_val (by unfold execOp; simp only [ho, Sem.run_bind, h2, Result.andThen_ok]; rfl) h3 h4)⟩
    · exact h.elim
  · rename_i t parts ho
    obtain ⟨av, v, h1, h2, h3⟩ := buildE_ok hT hs h
    exact ⟨av, s, h1, goes_pure (fun w2 => by unfold execOp; simp only [ho, Sem.run_bind, h3, Result.andThen_ok]; rfl) hs h2⟩
  · rename_i t len parts ho
    split at h
    · rename_i d hd
      obtain ⟨av, s', h1, v, w', g', h2, h3, h4⟩ := bldSliceE_ok hT hs h
      exact ⟨av, s', h1, goes_np (by rw [ho]; rfl) (goes_val (by unfold execOp; simp only [ho, Sem.run_bind, h2, Result.andThen_ok]; rfl) h3 h4)⟩
    · exact h.elim
  · rename_i t x ho
    obtain ⟨av, v, h1, h2, h3⟩ := loadE_ok hT hs h (opnd_ok hs _ x)
    exact ⟨av, s, h1, goes_np (by rw [ho]; rfl) (goes_val (by unfold execOp; simp only [ho, Sem.run_bind, h3, Result.andThen_ok]; rfl) hs h2)⟩
  · rename_i t x v ho
    obtain ⟨s', w', g', h1, h2, h3⟩ := storeE_ok hT hs h (opnd_ok hs _ x) (opnd_ok hs _ v)
    refine ⟨.un, s', h1, goes_np (by rw [ho]; rfl) fun next Q hn => ?_⟩
    unfold Oper.wp execOp
    simp only [ho, Sem.run_bind, h2, Result.andThen_ok, Sem.run_pure]
    exact hn undef w' g' h3 trivial
  · rename_i x ho
    have hx := opnd_ok (T := T) hs o.type x
    unfold nilChkE at h
    split at h
    · rename_i id off e
      rw [e] at hx
      have := (one_inv hx).2.2
      exact ⟨_, _, h, goes_np (by rw [ho]; rfl) (goes_val (by unfold execOp; simp only [ho, this]; rfl) hs (by rw [← this]; exact hx))⟩
    · rename_i t y e
      rw [e] at hx
      obtain ⟨_, ad, es, h1, _⟩ := one_inv hx
      exact ⟨_, _, h, goes_np (by rw [ho]; rfl) (goes_val (by unfold execOp; simp only [ho, h1]; rfl) hs (by rw [← h1]; exact hx))⟩
    · rename_i f fst c e
      rw [e] at hx
      obtain ⟨_, _, vs, _, this⟩ := one_inv hx
      exact ⟨_, _, h, goes_np (by rw [ho]; rfl) (goes_val (by unfold execOp; simp only [ho, this]; rfl) hs (by rw [← this]; exact hx))⟩
    · exact h.elim
  · rename_i op t x y yt ho
    obtain ⟨av, v, h1, h2, h3⟩ := binE2_ok (w := w) (g := g) (s := s) hT h (opnd_ok hs _ x) (opnd_ok hs _ y) x y
    exact ⟨av, s, h1, goes_pure (fun w2 => by unfold execOp; simp only [ho, Sem.run_bind, (h3 w2).1, (h3 w2).2, Result.andThen_ok]; rfl) hs h2⟩
  · rename_i op t x ho
    obtain ⟨av, v, h1, h2, h3⟩ := unE_ok (P := P) (w := w) (g := g) (s := s) h (opnd_ok hs _ x)
    exact ⟨av, s, h1, goes_pure (fun w2 => by unfold execOp; simp only [ho, Sem.run_bind, h3, Result.andThen_ok]; rfl) hs h2⟩
  · rename_i src dst x ho
    split at h
    · obtain ⟨av, v, h1, h2, h3⟩ := convE_ok (w := w) (g := g) (s := s) hT h (opnd_ok hs _ x)
      exact ⟨av, s, h1, goes_pure (fun w2 => by unfold execOp; simp only [ho, Sem.run_bind, h3, Result.andThen_ok]; rfl) hs h2⟩
    · rename_i hk
      obtain ⟨av, v, h1, h2, h3⟩ := convB_ok hT hs h (opnd_ok hs _ x)
      exact ⟨av, s, h1, goes_np (by rw [ho]; simp only [pureOp, hk]; rfl) (goes_val (by unfold execOp; simp only [ho, Sem.run_bind, h3, Result.andThen_ok]; rfl) hs h2)⟩
    · rename_i hk0 hk1
      obtain ⟨av, s', h1, v, w', g', h2, h3, h4⟩ := convS_ok hT hs h (opnd_ok hs _ x)
      refine ⟨av, s', h1, goes_np (by
        rw [ho]
        simp only [pureOp]
        cases hb : Nat.beq (cvK T src dst) 0 with
        | false => rfl
        | true => exact absurd (Nat.eq_of_beq_eq_true hb) hk0) (goes_val (by unfold execOp; simp only [ho, Sem.run_bind, h2, Result.andThen_ok]; rfl) h3 h4)⟩
  · rename_i t x lo hi ho
    obtain ⟨av, v, h1, h2, h3⟩ := sliceE_ok hT hs h (opnd_ok hs _ x) (oRel hs lo) (oRel hs hi)
    exact ⟨av, s, h1, goes_pure (fun w2 => by unfold execOp; simp only [ho, Option.map_none, Sem.run_bind, h3, Result.andThen_ok]; rfl) hs h2⟩
  · rename_i st x f ho
    obtain ⟨av, v, h1, h2, h3⟩ := fldAddrE_ok hT h (opnd_ok hs _ x)
    exact ⟨av, s, h1, goes_pure (fun w2 => by unfold execOp; simp only [ho, Sem.run_bind, h3, Result.andThen_ok]; rfl) hs h2⟩
  · rename_i t x f ho
    obtain ⟨av, v, h1, h2, h3⟩ := fieldE_ok hT h (opnd_ok hs _ x)
    exact ⟨av, s, h1, goes_pure (fun w2 => by unfold execOp; simp only [ho, Sem.run_bind, h3, Result.andThen_ok]; rfl) hs h2⟩
  · rename_i t x i ho
    obtain ⟨av, v, h1, h2, h3⟩ := idxAddrE_ok hT hs h (opnd_ok hs _ x) (opnd_ok hs _ i)
    exact ⟨av, s, h1, goes_pure (fun w2 => by unfold execOp; simp only [ho, Sem.run_bind, h3, Result.andThen_ok]; rfl) hs h2⟩
  · rename_i t x i ho
    obtain ⟨av, v, h1, h2, h3⟩ := indexE_ok hT h (opnd_ok hs _ x) (opnd_ok hs _ i)
    exact ⟨av, s, h1, goes_pure (fun w2 => by unfold execOp; simp only [ho, Sem.run_bind, h3, Result.andThen_ok]; rfl) hs h2⟩
  · rename_i x i ho
    obtain ⟨av, v, h1, h2, h3⟩ := extractE_ok (P := P) h (opnd_ok hs _ x)
    exact ⟨av, s, h1, goes_pure (fun w2 => by unfold execOp; simp only [ho, Sem.run_bind, h3, Result.andThen_ok]; rfl) hs h2⟩
  · rename_i t l c ho
    split at h
    · rename_i d hd
      obtain ⟨av, s', h1, v, w', g', h2, h3, h4⟩ := mkE_ok hT hs h (opnd_ok hs _ l) (opnd_ok hs _ c)
      exact ⟨av, s', h1, goes_np (by rw [ho]; rfl) (goes_val (by unfold execOp; simp only [ho, Sem.run_bind, h2, Result.andThen_ok]; rfl) h3 h4)⟩
    · exact h.elim
  · rename_i f first caps ho
    have hmk : ∀ {s : St} {g : Gh} {ids : List Nat} {fst : List (Bool × List TV)}, Sim w0 M n s a w g → capIds (caps.toList.map (opnd T 0 s)) = some ids → FstIn w (okL g.lab) fst (first.toList.map a.eval) → VR w g s (sv1 (.fn f fst ids)) (.func (.func f) (first.map a.eval) (caps.map a.eval)) := fun {s g ids fst} hs hcap hfst => by
      obtain ⟨h1, h2⟩ := capIds_ok hs hcap
      refine sv1_ok rfl ⟨h1, first.toList.map a.eval, hfst, ?_⟩
      have hcaps : caps.map a.eval = (ids.map fun id => Value.pointer (some ⟨g.bb id, 0, none⟩)).toArray := by
        apply Array.ext'
        rw [Array.toList_map, h2]
      rw [hcaps]
      congr 1
      apply Array.ext'
      rw [Array.toList_map]
    obtain ⟨s1, g1, hs1, h⟩ := frzAll_ok _ hs h
    split at h
    · rename_i fst ids hfst hcap
      exact ⟨_, _, h, goes_np (by rw [ho]; rfl) (goes_val (by unfold execOp; simp [ho, Instr.makeFunc]) hs1 (hmk hs1 hcap (fstE_ok hs1 hfst)))⟩
    · exact h.elim
  · rename_i t ho
    split at h
    · rename_i d hd
      obtain ⟨av, s', h1, v, w', g', h2, h3, h4⟩ := mkMapE_ok (P := P) hs hC.P h
      exact ⟨av, s', h1, goes_np (by rw [ho]; rfl) (goes_val (by unfold execOp; simp only [ho, Option.map_none, Sem.run_bind, h2, Result.andThen_ok]; rfl) h3 h4)⟩
    · exact h.elim
  · rename_i t m x v ho
    obtain ⟨s', w', g', h1, h2, h3⟩ := putMapE_ok hT hs hC.P h (opnd_ok hs _ m) (opnd_ok hs _ x) (opnd_ok hs _ v)
    refine ⟨.un, s', h1, goes_np (by rw [ho]; rfl) fun next Q hn => ?_⟩
    unfold Oper.wp execOp
    simp only [ho, Sem.run_bind, h2, Result.andThen_ok, Sem.run_pure]
    exact hn undef w' g' h3 trivial
  · rename_i t m x ho
    obtain ⟨av, v, h1, h2, h3⟩ := lookE_ok hT hs hC.P h (opnd_ok hs _ m) (opnd_ok hs _ x)
    exact ⟨av, s, h1, goes_np (by rw [ho]; rfl) (goes_val (by unfold execOp; simp only [ho, Sem.run_bind, h3, Result.andThen_ok]; rfl) hs h2)⟩
  · rename_i c ho
    obtain ⟨callee, cargs, cts⟩ := c
    dsimp only at h
    split at h
    · split at h
      · rename_i x t hx ht
        have ea : cargs = #[x] := by cases cargs; simp only at hx; rw [hx]
        have et : cts = #[t] := by cases cts; simp only at ht; rw [ht]
        subst ea et
        obtain ⟨av, v, h1, h2, h3⟩ := lenE_ok (ty := o.type) hT hs h (opnd_ok hs _ x)
        exact ⟨av, s, h1, goes_pure (fun w2 => by unfold execOp; simp [ho, resolve, invoke, builtin, h3]) hs h2⟩
      · exact h.elim
    · split at h
      · rename_i x y t t' d hx ht hd
        have ea : cargs = #[x, y] := by cases cargs; simp only at hx; rw [hx]
        have et : cts = #[t, t'] := by cases cts; simp only at ht; rw [ht]
        subst ea et
        obtain ⟨av, s', h1, v, w', g', h2, h3, h4⟩ := appE_ok (ty := o.type) hT hs h (opnd_ok hs _ x) (opnd_ok hs _ y)
        exact ⟨av, s', h1, goes_np (by rw [ho]; rfl) (goes_val (by unfold execOp; simp [ho, resolve, invoke, builtin, h2]) h3 h4)⟩
      · exact h.elim
    · split at h
      · rename_i x t hx ht
        have ea : cargs = #[x] := by cases cargs; simp only at hx; rw [hx]
        have et : cts = #[t] := by cases cts; simp only at ht; rw [ht]
        subst ea et
        obtain ⟨s', w', g', h1, h2, h3⟩ := clearE_ok (ty := o.type) hT hs h (opnd_ok hs _ x)
        exact ⟨.un, s', h1, goes_np (by rw [ho]; rfl) (goes_val (v := .tuple #[]) (by unfold execOp; simp [ho, resolve, invoke, builtin, h2]) h3 trivial)⟩
      · exact h.elim
    · split at h
      · rename_i x y hx
        have ea : cargs = #[x, y] := by cases cargs; simp only at hx; rw [hx]
        subst ea
        obtain ⟨av, v, h1, h2, h3⟩ := maxE_ok (P := P) (w := w) (g := g) (s := s) (ts := cts) (ty := o.type) h (opnd_ok hs _ x) (opnd_ok hs _ y)
        simp only [if_true] at h3
        exact ⟨av, s, h1, goes_pure (fun w2 => by unfold execOp; simp [ho, resolve, invoke, builtin, h3]) hs h2⟩
      · exact h.elim
    · split at h
      · rename_i x y hx
        have ea : cargs = #[x, y] := by cases cargs; simp only at hx; rw [hx]
        subst ea
        obtain ⟨av, v, h1, h2, h3⟩ := maxE_ok (P := P) (w := w) (g := g) (s := s) (ts := cts) (ty := o.type) h (opnd_ok hs _ x) (opnd_ok hs _ y)
        simp only [Bool.false_eq_true, if_false] at h3
        exact ⟨av, s, h1, goes_pure (fun w2 => by unfold execOp; simp [ho, resolve, invoke, builtin, h3]) hs h2⟩
      · exact h.elim
    · rename_i f
      split at h
      · rename_i con hcon
        split at h
        · rename_i d hd
          obtain ⟨hf, hok, fn, f1, f2, f3⟩ := hC.c f con hcon
          cases hlen : Nat.beq cargs.toList.length cts.toList.length with
          | false => rw [hlen] at h; exact h.elim
          | true =>
          rw [hlen] at h
          have hlen := Nat.eq_of_beq_eq_true hlen
          obtain ⟨av, s2, h1, h2⟩ := callE_ok hs hC hok h
          refine ⟨av, s2, h1, goes_np (by rw [ho]; rfl) fun next Q hn => ?_⟩
          have e : ((cargs.toList.zip cts.toList).map fun p => a.eval p.1).toArray = cargs.map a.eval := by
            apply Array.ext'
            rw [Array.toList_map]
            show (cargs.toList.zip cts.toList).map (a.eval ∘ Prod.fst) = _
            rw [← List.map_map, List.map_fst_zip (by omega)]
          rw [e, hf] at h2
          have hrun : (execOp a.eval o).run P w = .ok (.enter f (cargs.map a.eval)) w := by
            unfold execOp
            simp [ho, resolve, invoke, Deferred.ofValue, callFunc, Act.eval, f1, f2, f3]
            rw [if_neg (by simpa using f2), if_neg (by intro e; rw [e] at f3; cases f3)]
          unfold Oper.wp
          rw [hrun, Oper.upon_enter]
          refine h2.mono fun e w' hh => ?_
          obtain ⟨v, g', rfl, h3, h4⟩ := hh
          exact hn v w' g' h3 h4
        · exact h.elim
      · exact h.elim
    · rename_i x
      split at h
      · rename_i j d hx hd
        split at h
        · rename_i q hq
          cases hlen : Nat.beq cargs.toList.length cts.toList.length with
          | false => rw [hlen] at h; exact h.elim
          | true =>
          rw [hlen] at h
          have hlen := Nat.eq_of_beq_eq_true hlen
          obtain ⟨f, first, caps, hf, ⟨fn, f1, f2, f3⟩, av, s2, h1, h2⟩ := callF_ok hs hC hq h
          have hv := hs.tm x
          rw [hx] at hv
          have hv2 : a.tmps.getD x undef = g.fv j := (one_inv hv).2
          rw [hf] at hv2
          refine ⟨av, s2, h1, goes_np (by rw [ho]; rfl) fun next Q hn => ?_⟩
          have e : ((cargs.toList.zip cts.toList).map fun p => a.eval p.1).toArray = cargs.map a.eval := by
            apply Array.ext'
            rw [Array.toList_map]
            show (cargs.toList.zip cts.toList).map (a.eval ∘ Prod.fst) = _
            rw [← List.map_map, List.map_fst_zip (by omega)]
          rw [e] at h2
          have hrun : (execOp a.eval o).run P w = .ok (.enter f (first ++ cargs.map a.eval ++ caps)) w := by
            unfold execOp
            simp [ho, resolve, invoke, Deferred.ofValue, callFunc, Act.eval, hv2, f1, f2, f3]
            rw [if_neg (by simpa using f2), if_neg (by intro e; rw [e] at f3; cases f3)]
          unfold Oper.wp
          rw [hrun, Oper.upon_enter]
          refine h2.mono fun e w' hh => ?_
          obtain ⟨v, g', rfl, h3, h4⟩ := hh
          exact hn v w' g' h3 h4
        · exact h.elim
      · exact h.elim
    · exact h.elim
  · exact h.elim
/-- Operations that only read. -/
def rdOp (T : Tab) : Op → Bool
  | .load _ _ | .nilCheck _ => true
  | .convert s d _ => Nat.ble (cvK T s d) 1
  | o => pureOp T o
theorem readOp_ok {K : AV → St → Prop} (hT : T.Good P) (hC : C.Ok P w0 M) (hs : Sim w0 M n s a w g) {o : Oper} (hr : rdOp T o.op = true) (h : opE T C o s K) : ∃ av v, K av s ∧ VR w g s av v ∧ (execOp a.eval o).run P w = .ok (.value v) w := by
  cases hp : pureOp T o.op with
  | true =>
    obtain ⟨av, s', h1, _, h3⟩ := opE_ok hT hC hs h
    obtain ⟨rfl, v, k1, k2⟩ := h3 hp
    exact ⟨av, v, h1, k2, k1 w⟩
  | false =>
    unfold rdOp at hr
    split at hr
    · rename_i t x ho
      unfold opE at h
      rw [ho] at h
      obtain ⟨av, v, h1, h2, h3⟩ := loadE_ok hT hs h (opnd_ok hs _ x)
      exact ⟨av, v, h1, h2, by unfold execOp; simp only [ho, Sem.run_bind, h3, Result.andThen_ok]; rfl⟩
    · rename_i x ho
      have hx := opnd_ok (T := T) hs o.type x
      unfold opE at h
      rw [ho] at h
      dsimp only at h
      unfold nilChkE at h
      split at h
      · rename_i id off e
        rw [e] at hx
        have := (one_inv hx).2.2
        exact ⟨_, a.eval x, h, hx, by unfold execOp; simp only [ho, this]; rfl⟩
      · rename_i t y e
        rw [e] at hx
        obtain ⟨_, ad, es, h1, _⟩ := one_inv hx
        exact ⟨_, a.eval x, h, hx, by unfold execOp; simp only [ho, h1]; rfl⟩
      · rename_i f fst c e
        rw [e] at hx
        obtain ⟨_, _, vs, _, this⟩ := one_inv hx
        exact ⟨_, a.eval x, h, hx, by unfold execOp; simp only [ho, this]; rfl⟩
      · exact h.elim
    · rename_i src dst x ho
      unfold opE at h
      rw [ho] at h
      dsimp only at h
      have hk1 : cvK T src dst = 1 := by
        have h1 := Nat.le_of_ble_eq_true hr
        have h2 : cvK T src dst ≠ 0 := fun e => by rw [ho] at hp; simp only [pureOp, e] at hp; cases hp
        omega
      rw [hk1] at h
      obtain ⟨av, v, h1, h2, h3⟩ := convB_ok hT hs h (opnd_ok hs _ x)
      exact ⟨av, v, h1, h2, by unfold execOp; simp only [ho, Sem.run_bind, h3, Result.andThen_ok]; rfl⟩
    · rw [hp] at hr; cases hr
end
end Go.Ab
/- Code, told; and that it does as told. No conditions. -/
namespace Go.Ab
open Go
inductive Ex where
  | nor
  | exit (id : Nat)
  | ret
def forceC (c : CV) (K : CV → Prop) : Prop :=
  match c with
  | .un => K .un
  | .dat t x => K (.dat t x)
  | .nil e t => K (.nil e t)
  | .own id gen => K (.own id gen)
  | .sub id gen lo hi => K (.sub id gen lo hi)
  | .ptr id off => K (.ptr id off)
  | .loc t x => K (.loc t x)
  | .elt id gen i off => K (.elt id gen i off)
  | .fn f fst caps => K (.fn f fst caps)
  | .fnp j => K (.fnp j)
  | .locf j => K (.locf j)
  | .mp id => K (.mp id)
def forceCs (cs : List CV) (K : List CV → Prop) : Prop :=
  match cs with
  | [] => K []
  | c :: cs => forceC c fun c => forceCs cs fun cs => K (c :: cs)
def force (av : AV) (K : AV → Prop) : Prop :=
  match av with
  | .un => K .un
  | .und => K .und
  | .sv a cs => forceCs cs fun cs => K (.sv a cs)
  | .tup vs => K (.tup vs)
theorem forceC_eq {c : CV} {K : CV → Prop} : forceC c K = K c := by cases c <;> rfl
theorem forceCs_eq : ∀ {cs : List CV} {K : List CV → Prop}, forceCs cs K = K cs
  | [], _ => rfl
  | c :: cs, K => by unfold forceCs; rw [forceC_eq, forceCs_eq]
theorem force_eq {av : AV} {K : AV → Prop} : force av K = K av := by
  cases av with
  | un => rfl
  | und => rfl
  | sv a cs => exact forceCs_eq
  | tup vs => rfl
def putE (n : Nat) (dst : Option Tmp) (av : AV) (s : St) (K : St → Prop) : Prop :=
  match dst with
  | none => K s
  | some d => bif Nat.blt d n then force av fun av => K { s with tm := fset s.tm d av } else False
def stepE (T : Tab) (C : CTab) (n : Nat) (all : Array Oper) (o : Oper) (s : St) (K : St → Prop) : Prop :=
  match o.guard with
  | none => opE T C o s fun av s' => putE n o.dst av s' K
  | some q => match (all[q.1]?).bind (·.dst) with
    | some d => bif Nat.blt d n then
        match s.tm d with
        | .sv false [.dat .bool x] =>
          brB x
            (match q.2 with
            | true => opE T C o { s with tm := fset s.tm d (bool1 true) } fun av s' => putE n o.dst av s' K
            | false => putE n o.dst .und { s with tm := fset s.tm d (bool1 true) } K)
            (match q.2 with
            | true => putE n o.dst .und { s with tm := fset s.tm d (bool1 false) } K
            | false => opE T C o { s with tm := fset s.tm d (bool1 false) } fun av s' => putE n o.dst av s' K)
        | .und => putE n o.dst .und s K
        | _ => False
      else False
    | none => False
def opsE (T : Tab) (C : CTab) (n : Nat) (all : Array Oper) : List Oper → St → (St → Prop) → Prop
  | [], s, K => K s
  | o :: rest, s, K => stepE T C n all o s fun s' => opsE T C n all rest s' K
structure Both (A B : Prop) : Prop where
  left : A
  right : B
def allE (p : Nat → Prop) : List Nat → Prop
  | [] => True
  | i :: is => Both (p i) (allE p is)
def rdyB (ls : List Bool) (o : Oper) : Bool := o.after.toList.all fun e => !Region.binds .any e || ls.getD e.on false
def rdyL (l : List Oper) (ls : List Bool) : List Nat := (List.range l.length).filter fun i => !ls.getD i true && ((l[i]?).map (rdyB ls)).getD false
def opdL (o : Op) : List Operand :=
  match o with
  | .slice _ x lo hi none => x :: (lo.toList ++ hi.toList)
  | .call ⟨.builtin b, args, _⟩ => args.toList
  | .call ⟨.value v, args, _⟩ => v :: args.toList
  | .makeFunc _ f c => f.toList ++ c.toList
  | o => o.operands.toList
def lookL (l : List Oper) (o : Oper) : List Nat := (opdL o.op).filterMap (fun | .tmp t => some t | _ => none) ++ (match o.guard with
   | some (g, _) => ((l[g]?).bind (·.dst)).toList
   | none => [])
def hasB (l : List Nat) (d : Nat) : Bool := l.any fun x => Nat.beq d x
def apartL (l : List Oper) (x y : Oper) : Bool :=
  (match x.dst with
   | some d => !(hasB (lookL l y) d) && (match y.dst with | some d' => !(Nat.beq d' d) | none => true)
   | none => true) &&
  (match y.dst with
   | some d => !(hasB (lookL l x) d)
   | none => true)
def freeL (l : List Oper) (ls : List Bool) (i : Nat) : Bool :=
  match l[i]? with
  | none => false
  | some oi => (List.range l.length).all fun j => Nat.beq j i || ls.getD j true || match l[j]? with
      | some oj => oj.after.toList.any (fun e => Region.binds .any e && Nat.beq e.on i) || apartL l oi oj
      | none => true
theorem opdL_eq {o : Op} : opdL o = o.operands.toList := by
  unfold opdL
  split
  · simp [Op.operands, Option.toList_toArray]
  · simp [Op.operands, Call.operands]
  · simp [Op.operands, Call.operands]
  · simp [Op.operands]
  · rfl
theorem lookL_eq {ops : Array Oper} {o : Oper} : lookL ops.toList o = o.looksAt ops := by
  unfold lookL Oper.looksAt
  rw [opdL_eq]
  simp only [Array.getElem?_toList]
  rfl
theorem beqN {a b : Nat} : (a == b) = Nat.beq a b := by
  rw [Bool.eq_iff_iff, beq_iff_eq, Nat.beq_eq]
theorem hasB_eq {l : List Nat} {d : Nat} : hasB l d = l.contains d := by
  unfold hasB
  rw [List.contains_eq_any_beq]
  simp only [beqN]

theorem apartL_eq {ops : Array Oper} {x y : Oper} : apartL ops.toList x y = x.apart ops y := by
  unfold apartL Oper.apart
  simp only [lookL_eq, hasB_eq]
  congr 1
  cases x.dst with
  | none => rfl
  | some d => cases h : y.dst with
    | none => simp
    | some d' => simp [bne, beqN]
theorem getDL {ls : List Bool} {i : Nat} {d : Bool} : (⟨ls⟩ : Array Bool).getD i d = ls.getD i d := by
  rw [Array.getD_eq_getD_getElem?, List.getD_eq_getElem?_getD]
  simp
theorem rdyL_eq {ops : Array Oper} {ls : List Bool} : rdyL ops.toList ls = Region.ready .any ops ⟨ls⟩ := by
  unfold rdyL Region.ready rdyB
  simp only [getDL, Array.getElem?_toList, Array.length_toList, Array.all_toList]
theorem freeL_eq {ops : Array Oper} {ls : List Bool} {i : Nat} : freeL ops.toList ls i = Region.free .any ops ⟨ls⟩ i := by
  unfold freeL Region.free
  simp only [getDL, Array.getElem?_toList, Array.length_toList, apartL_eq, Array.any_toList, beqN]
  rfl
def noSel (l : List Oper) : Bool := l.all fun o => match o.op with | .select .. => false | _ => true
theorem noSel_eq {ops : Array Oper} : noSel ops.toList = Region.noSelect ops := by
  unfold noSel Region.noSelect
  rw [Array.all_toList]
  rfl
/-- A region that only reads: the order of the text does for all. -/
def lexL (l : List Oper) : Nat → Nat → List Bool → Bool
  | 0, _, ls => (rdyL l ls).isEmpty
  | f + 1, k, ls => hasB (rdyL l ls) k && (freeL l ls k && lexL l f (k + 1) (ls.set k true))
def quietL (T : Tab) (l : List Oper) : Bool := (l.all fun o => rdOp T o.op) && (noSel l && lexL l l.length 0 (List.replicate l.length false))
theorem lexL_eq {ops : Array Oper} : ∀ (f k : Nat) (ls : List Bool), lexL ops.toList f k ls = Region.lexFrom .any ops f k ⟨ls⟩
  | 0, k, ls => by unfold lexL Region.lexFrom; rw [rdyL_eq]
  | f + 1, k, ls => by
    unfold lexL Region.lexFrom
    rw [rdyL_eq, freeL_eq, hasB_eq, lexL_eq f, Bool.and_assoc]
    congr 3
    simp
theorem quietL_ok {T : Tab} {ops : Array Oper} (h : quietL T ops.toList = true) : (∀ o ∈ ops.toList, rdOp T o.op = true) ∧ Region.lexB .any ops = true := by
  unfold quietL at h
  simp only [Bool.and_eq_true, List.all_eq_true] at h
  refine ⟨h.1, ?_⟩
  unfold Region.lexB
  rw [Bool.and_eq_true, ← noSel_eq]
  refine ⟨h.2.1, ?_⟩
  have := h.2.2
  rw [lexL_eq] at this
  simpa using this
def pickPure (T : Tab) (l : List Oper) (ls : List Bool) : List Nat → Option (Nat × Oper)
  | [] => none
  | i :: is => match l[i]? with
    | some o => bif pureOp T o.op && freeL l ls i then some (i, o) else pickPure T l ls is
    | none => none
/-- A region whose order is open. -/
def drawE (T : Tab) (C : CTab) (n : Nat) (ops : Array Oper) : Nat → List Bool → St → (St → Prop) → Prop
  | 0, ls, s, K => match rdyL ops.toList ls with
    | [] => K s
    | _ => False
  | f + 1, ls, s, K => match rdyL ops.toList ls with
    | [] => K s
    | i :: is => match pickPure T ops.toList ls (i :: is) with
      | some p => stepE T C n ops p.2 s fun s' => drawE T C n ops f (ls.set p.1 true) s' K
      | none => allE (fun i => match ops.toList[i]? with
        | some o => stepE T C n ops o s fun s' => drawE T C n ops f (ls.set i true) s' K
        | none => False) (i :: is)
def firstId : Code → Nat
  | .region id _ _ => id
  | .seq a _ => firstId a
  | .block _ c => firstId c
  | .loop c => firstId c
  | .cond (.tmp t) _ _ => 100000 + t
  | _ => 0
structure Specs where
  pins : List Nat
  loop : Nat → Option Spec
  join : Nat → Option Spec
/-- Ways meet: what holds there, and what follows, once. -/
inductive JoinE (id : Nat) (A : (St → Prop) → Prop) (B : St → Prop) : Prop
  | mk (J : St → Prop) (hb : ∀ s, J s → B s) (ha : A J) : JoinE id A B
/-- A loop: what holds at its head, and a number that falls. -/
inductive LoopE (id : Nat) (A : (St → Prop) → Prop) (B : (St → Prop) → St → Prop) : Prop
  | mk (J : Nat → St → Prop) (hb : ∀ k s, J k s → B (fun s' => ∃ k', k' < k ∧ J k' s') s) (ha : A (fun s => ∃ k, J k s)) : LoopE id A B
def codeE (T : Tab) (C : CTab) (n : Nat) (N : Specs) : Code → St → (Ex → St → Prop) → Prop
  | .skip, s, K => K .nor s
  | .region _ ops draw, s, K => bif draw then (bif quietL T ops.toList then opsE T C n ops ops.toList s (K .nor) else bif noSel ops.toList then drawE T C n ops ops.size (List.replicate ops.size false) s (K .nor) else False) else opsE T C n ops ops.toList s (K .nor)
  | .seq a b, s, K => match N.join (firstId b) with
    | none => codeE T C n N a s fun e s' => match e with
      | .nor => codeE T C n N b s' K
      | e => K e s'
    | some sp => JoinE (firstId b) (fun J => codeE T C n N a s fun e s' => match e with
      | .nor => normE N.pins sp s' J
      | e => K e s') (fun s => codeE T C n N b s K)
  | .cond c a b, s, K => match opnd T 0 s c with
    | .sv false [.dat .bool x] => brB x (codeE T C n N a s K) (codeE T C n N b s K)
    | _ => False
  | .block id c, s, K => codeE T C n N c s fun e s' => match e with
    | .exit j => bif Nat.beq j id then K .nor s' else K (.exit j) s'
    | e => K e s'
  | .loop c, s, K => match N.loop (firstId c) with
    | some sp => LoopE (firstId c) (normE N.pins sp s) (fun I s => codeE T C n N c s (fun e s' => match e with | .nor => normE N.pins sp s' I | e => K e s'))
    | none => False
  | .exit id, s, K => K (.exit id) s
  | .ret, s, K => K .ret s
  | _, _, _ => False
section
variable {P : Program} {T : Tab} {C : CTab} {N : Specs} {w0 w w' : World} {M : Mv} {n : Nat} {s s' : St} {a : Act} {g g' : Gh}
theorem Sim.put (hs : Sim w0 M n s a w g) {d : Nat} {av : AV} {v : Value} (hd : d < n) (hv : VR w g s av v) : Sim w0 M n { s with tm := fset s.tm d av } (a.put (some d) v) w g := by
  have he := ext_tm s g w (fset s.tm d av)
  have hsz := hs.sz
  exact { hs with
    sz := by show (a.tmps.setIfInBounds d v).size = n; rw [Array.size_setIfInBounds]; exact hsz
    df := hs.df
    tm := fun t => by
      refine VR.ext he ?_
      show VR w g s (fset s.tm d av t) ((a.tmps.setIfInBounds d v).getD t undef)
      by_cases e : t = d
      · subst e
        rw [fset_same]
        have : (a.tmps.setIfInBounds t v).getD t undef = v := by simp [Array.getD, hsz, hd]
        rw [this]
        exact hv
      · rw [fset_ne _ _ e]
        have : (a.tmps.setIfInBounds d v).getD t undef = a.tmps.getD t undef := by
          rw [Array.getD_eq_getD_getElem?, Array.getD_eq_getD_getElem?, Array.getElem?_setIfInBounds_ne (Ne.symm e)]
        rw [this]
        exact hs.tm t
    bx := fun id b hb => (hs.bx id b hb).keep he ⟨rfl, (hs.bx id b hb).lab⟩ rfl
    rw := hs.rw }
theorem putE_ok {K : St → Prop} (hs : Sim w0 M n s a w g) {dst : Option Tmp} {av : AV} {v : Value} (h : putE n dst av s K) (hv : VR w g s av v) : ∃ s', K s' ∧ Sim w0 M n s' (a.put dst v) w g := by
  unfold putE at h
  split at h
  · exact ⟨s, h, hs⟩
  · rename_i d
    cases hd : Nat.blt d n with
    | false => rw [hd] at h; exact h.elim
    | true =>
      rw [hd, cond_true, force_eq] at h
      exact ⟨_, h, hs.put (Nat.le_of_ble_eq_true hd) hv⟩
/-- One operation, wanted or not. -/
theorem stepE_ok {K : St → Prop} (hT : T.Good P) (hC : C.Ok P w0 M) {all : Array Oper} {o : Oper} (hs : Sim w0 M n s a w g) (h : stepE T C n all o s K) :
    (∀ (next : Act → World → Prop) (Q : Exit → Act → World → Prop), (∀ s' a' w' g', K s' → Sim w0 M n s' a' w' g' → next a' w') →
      if Region.wanted o (yielded all a.tmps) then o.wp P a w next Q ∨ (o.asks P a w ∧ LetsOut Q) else next (a.put o.dst undef) w) ∧
    (pureOp T o.op = true → ∃ v s' g', K s' ∧ Sim w0 M n s' (a.put o.dst v) w g' ∧ Yields P all o v a) := by
  have run : ∀ {s : St} {g : Gh}, Sim w0 M n s a w g → Region.wanted o (yielded all a.tmps) = true → (opE T C o s fun av s' => putE n o.dst av s' K) →
      (∀ (next : Act → World → Prop) (Q : Exit → Act → World → Prop), (∀ s' a' w' g', K s' → Sim w0 M n s' a' w' g' → next a' w') →
        if Region.wanted o (yielded all a.tmps) then o.wp P a w next Q ∨ (o.asks P a w ∧ LetsOut Q) else next (a.put o.dst undef) w) ∧
      (pureOp T o.op = true → ∃ v s' g', K s' ∧ Sim w0 M n s' (a.put o.dst v) w g' ∧ Yields P all o v a) := by
    intro s g hs hw h
    obtain ⟨av, s1, h1, h2, h3⟩ := opE_ok hT hC hs h
    refine ⟨fun next Q hn => ?_, fun hp => ?_⟩
    · rw [if_pos hw]
      refine .inl (h2 _ _ fun v w' g' k1 k2 => ?_)
      obtain ⟨s2, k3, k4⟩ := putE_ok k1 h1 k2
      exact hn s2 _ _ _ k3 k4
    · obtain ⟨rfl, v, k1, k2⟩ := h3 hp
      obtain ⟨s2, k3, k4⟩ := putE_ok hs h1 k2
      exact ⟨v, s2, g, k3, k4, .inl ⟨hw, k1⟩⟩
  have skip : ∀ {s : St} {g : Gh}, Sim w0 M n s a w g → Region.wanted o (yielded all a.tmps) = false → (putE n o.dst .und s K) →
      (∀ (next : Act → World → Prop) (Q : Exit → Act → World → Prop), (∀ s' a' w' g', K s' → Sim w0 M n s' a' w' g' → next a' w') →
        if Region.wanted o (yielded all a.tmps) then o.wp P a w next Q ∨ (o.asks P a w ∧ LetsOut Q) else next (a.put o.dst undef) w) ∧
      (pureOp T o.op = true → ∃ v s' g', K s' ∧ Sim w0 M n s' (a.put o.dst v) w g' ∧ Yields P all o v a) := by
    intro s g hs hw h
    obtain ⟨s2, k3, k4⟩ := putE_ok (v := undef) hs h rfl
    refine ⟨fun next Q hn => ?_, fun _ => ⟨undef, s2, g, k3, k4, .inr ⟨hw, rfl⟩⟩⟩
    rw [if_neg (by rw [hw]; simp)]
    exact hn s2 _ _ _ k3 k4
  unfold stepE at h
  split at h
  · rename_i hgd
    exact run hs (by unfold Region.wanted; rw [hgd]) h
  · rename_i q hgd
    split at h
    · rename_i d hd
      cases hdn : Nat.blt d n with
      | false => rw [hdn] at h; exact h.elim
      | true =>
      rw [hdn] at h
      have hdlt : d < n := Nat.le_of_ble_eq_true hdn
      dsimp only [cond] at h
      split at h
      · rename_i x hx
        have hv := hs.tm d
        rw [hx] at hv
        have hv := VR.bool hv
        have hy : yielded all a.tmps q.1 = some x := by
          unfold yielded
          rw [hd]
          have : a.tmps[d]? = some (.bool x) := by
            have hlt : d < a.tmps.size := by rw [hs.sz]; exact hdlt
            rw [Array.getElem?_eq_getElem hlt]
            have : a.tmps.getD d undef = a.tmps[d] := by simp [Array.getD, hlt]
            rw [← this, hv]
          simp only [Option.bind_some, this]
        have hwt : Region.wanted o (yielded all a.tmps) = (x == q.2) := by
          obtain ⟨q1, q2⟩ := q
          unfold Region.wanted
          rw [hgd]
          simp only at hy ⊢
          rw [hy]
          cases x <;> cases q2 <;> rfl
        have hs' : ∀ y, x = y → Sim w0 M n { s with tm := fset s.tm d (bool1 y) } a w g := fun y e => hs.setTm (by rw [hv, e]; exact bool1_ok y)
        cases x with
        | true =>
          cases hq : q.2 with
          | true => simp only [brB, hq] at h; exact run (hs' true rfl) (by rw [hwt, hq]; rfl) h
          | false => simp only [brB, hq] at h; exact skip (hs' true rfl) (by rw [hwt, hq]; rfl) h
        | false =>
          cases hq : q.2 with
          | true => simp only [brB, hq] at h; exact skip (hs' false rfl) (by rw [hwt, hq]; rfl) h
          | false => simp only [brB, hq] at h; exact run (hs' false rfl) (by rw [hwt, hq]; rfl) h
      · rename_i hx
        have hv : a.tmps.getD d undef = undef := by have hv := hs.tm d; rw [hx] at hv; exact hv
        refine skip hs ?_ h
        have hy : yielded all a.tmps q.1 = none := by
          unfold yielded
          rw [hd]
          have : a.tmps[d]? = some undef := by
            have hlt : d < a.tmps.size := by rw [hs.sz]; exact hdlt
            rw [Array.getElem?_eq_getElem hlt]
            have : a.tmps.getD d undef = a.tmps[d] := by simp [Array.getD, hlt]
            rw [← this, hv]
          simp only [Option.bind_some, this]
          rfl
        obtain ⟨q1, q2⟩ := q
        unfold Region.wanted
        rw [hgd]
        simp only at hy ⊢
        rw [hy]
        rfl
      · exact h.elim
    · exact h.elim
theorem opsE_ok {K : St → Prop} (hT : T.Good P) (hC : C.Ok P w0 M) {all : Array Oper} {Q : Exit → Act → World → Prop} (hQ : ∀ s' a' w' g', K s' → Sim w0 M n s' a' w' g' → Q .normal a' w') :
    ∀ (l : List Oper) {s : St} {a : Act} {w : World} {g : Gh}, Sim w0 M n s a w g → opsE T C n all l s K → wpList P all Q l a w := by
  intro l
  induction l with
  | nil => exact fun {s a w g} hs h => hQ s a w g h hs
  | cons o rest ih => exact fun {s a w g} hs h => (stepE_ok hT hC hs h).1 _ Q fun s' a' w' g' k1 k2 => ih k2 k1
theorem stepE_rd {K : St → Prop} (hT : T.Good P) (hC : C.Ok P w0 M) {all : Array Oper} {o : Oper} (hs : Sim w0 M n s a w g) (hr : rdOp T o.op = true) (h : stepE T C n all o s K) :
    ∃ v s', K s' ∧ Sim w0 M n s' (a.put o.dst v) w g ∧ ((Region.wanted o (yielded all a.tmps) = true ∧ (execOp a.eval o).run P w = .ok (.value v) w) ∨ (Region.wanted o (yielded all a.tmps) = false ∧ v = undef)) := by
  have run : ∀ {s : St}, Sim w0 M n s a w g → Region.wanted o (yielded all a.tmps) = true → (opE T C o s fun av s' => putE n o.dst av s' K) →
      ∃ v s', K s' ∧ Sim w0 M n s' (a.put o.dst v) w g ∧ ((Region.wanted o (yielded all a.tmps) = true ∧ (execOp a.eval o).run P w = .ok (.value v) w) ∨ (Region.wanted o (yielded all a.tmps) = false ∧ v = undef)) := by
    intro s hs hw h
    obtain ⟨av, v, h1, h2, h3⟩ := readOp_ok hT hC hs hr h
    obtain ⟨s2, k3, k4⟩ := putE_ok hs h1 h2
    exact ⟨v, s2, k3, k4, .inl ⟨hw, h3⟩⟩
  have skip : ∀ {s : St}, Sim w0 M n s a w g → Region.wanted o (yielded all a.tmps) = false → (putE n o.dst .und s K) →
      ∃ v s', K s' ∧ Sim w0 M n s' (a.put o.dst v) w g ∧ ((Region.wanted o (yielded all a.tmps) = true ∧ (execOp a.eval o).run P w = .ok (.value v) w) ∨ (Region.wanted o (yielded all a.tmps) = false ∧ v = undef)) := by
    intro s hs hw h
    obtain ⟨s2, k3, k4⟩ := putE_ok (v := undef) hs h rfl
    exact ⟨undef, s2, k3, k4, .inr ⟨hw, rfl⟩⟩
  unfold stepE at h
  split at h
  · rename_i hgd
    exact run hs (by unfold Region.wanted; rw [hgd]) h
  · rename_i q hgd
    split at h
    · rename_i d hd
      cases hdn : Nat.blt d n with
      | false => rw [hdn] at h; exact h.elim
      | true =>
      rw [hdn] at h
      have hdlt : d < n := Nat.le_of_ble_eq_true hdn
      dsimp only [cond] at h
      split at h
      · rename_i x hx
        have hv := hs.tm d
        rw [hx] at hv
        have hv := VR.bool hv
        have hy : yielded all a.tmps q.1 = some x := by
          unfold yielded
          rw [hd]
          have : a.tmps[d]? = some (.bool x) := by
            have hlt : d < a.tmps.size := by rw [hs.sz]; exact hdlt
            rw [Array.getElem?_eq_getElem hlt]
            have : a.tmps.getD d undef = a.tmps[d] := by simp [Array.getD, hlt]
            rw [← this, hv]
          simp only [Option.bind_some, this]
        have hwt : Region.wanted o (yielded all a.tmps) = (x == q.2) := by
          obtain ⟨q1, q2⟩ := q
          unfold Region.wanted
          rw [hgd]
          simp only at hy ⊢
          rw [hy]
          cases x <;> cases q2 <;> rfl
        have hs' : ∀ y, x = y → Sim w0 M n { s with tm := fset s.tm d (bool1 y) } a w g := fun y e => hs.setTm (by rw [hv, e]; exact bool1_ok y)
        cases x with
        | true =>
          cases hq : q.2 with
          | true => simp only [brB, hq] at h; exact run (hs' true rfl) (by rw [hwt, hq]; rfl) h
          | false => simp only [brB, hq] at h; exact skip (hs' true rfl) (by rw [hwt, hq]; rfl) h
        | false =>
          cases hq : q.2 with
          | true => simp only [brB, hq] at h; exact skip (hs' false rfl) (by rw [hwt, hq]; rfl) h
          | false => simp only [brB, hq] at h; exact run (hs' false rfl) (by rw [hwt, hq]; rfl) h
      · rename_i hx
        have hv : a.tmps.getD d undef = undef := by have hv := hs.tm d; rw [hx] at hv; exact hv
        refine skip hs ?_ h
        have hy : yielded all a.tmps q.1 = none := by
          unfold yielded
          rw [hd]
          have : a.tmps[d]? = some undef := by
            have hlt : d < a.tmps.size := by rw [hs.sz]; exact hdlt
            rw [Array.getElem?_eq_getElem hlt]
            have : a.tmps.getD d undef = a.tmps[d] := by simp [Array.getD, hlt]
            rw [← this, hv]
          simp only [Option.bind_some, this]
          rfl
        obtain ⟨q1, q2⟩ := q
        unfold Region.wanted
        rw [hgd]
        simp only at hy ⊢
        rw [hy]
        rfl
      · exact h.elim
    · exact h.elim
theorem opsE_quiet {K : St → Prop} (hT : T.Good P) (hC : C.Ok P w0 M) {all : Array Oper} :
    ∀ (l : List Oper) {s : St} {a : Act}, (∀ o ∈ l, rdOp T o.op = true) → Sim w0 M n s a w g → opsE T C n all l s K → wpQuiet P all (fun w' => w' = w) (fun a' => ∃ s', K s' ∧ Sim w0 M n s' a' w g) l a := by
  intro l
  induction l with
  | nil => exact fun {s a} _ hs h => ⟨s, h, hs⟩
  | cons o rest ih =>
    intro s a hl hs h
    obtain ⟨v, s', k1, k2, k3⟩ := stepE_rd hT hC hs (hl o List.mem_cons_self) h
    have hrest := ih (fun o ho => hl o (List.mem_cons_of_mem _ ho)) k2 k1
    unfold wpQuiet
    rcases k3 with ⟨hw, hx⟩ | ⟨hw, rfl⟩
    · rw [if_pos hw]
      refine ⟨v, fun w' e => ?_, hrest⟩
      subst e
      unfold Oper.quietAt
      rw [hx]
      exact ⟨rfl, rfl⟩
    · rw [if_neg (by rw [hw]; simp)]
      exact hrest
theorem wpQuiet_mono' {ops : Array Oper} {D : World → Prop} {Q Q' : Act → Prop} (hq : ∀ a, Q a → Q' a) : ∀ (l : List Oper) {a : Act}, wpQuiet P ops D Q l a → wpQuiet P ops D Q' l a
  | [], a, h => hq a h
  | o :: l, a, h => by
    unfold wpQuiet at h ⊢
    split
    · rename_i hw
      rw [if_pos hw] at h
      obtain ⟨v, h1, h2⟩ := h
      exact ⟨v, h1, wpQuiet_mono' hq l h2⟩
    · rename_i hw
      rw [if_neg hw] at h
      exact wpQuiet_mono' hq l h
theorem allE_mem {p : Nat → Prop} : ∀ {l : List Nat}, allE p l → ∀ i ∈ l, p i
  | _ :: _, h, i, hi => by
    rcases List.mem_cons.1 hi with rfl | hi
    · exact h.1
    · exact allE_mem h.2 i hi
theorem pickPure_ok {T : Tab} {l : List Oper} {ls : List Bool} {i : Nat} {o : Oper} : ∀ {is : List Nat}, pickPure T l ls is = some (i, o) → i ∈ is ∧ l[i]? = some o ∧ pureOp T o.op = true ∧ freeL l ls i = true
  | j :: is, h => by
    unfold pickPure at h
    split at h
    · rename_i o' ho
      cases hb : pureOp T o'.op && freeL l ls j with
      | true =>
        rw [hb] at h
        cases h
        rw [Bool.and_eq_true] at hb
        exact ⟨List.mem_cons_self, ho, hb.1, hb.2⟩
      | false =>
        rw [hb] at h
        obtain ⟨h1, h2⟩ := pickPure_ok h
        exact ⟨List.mem_cons_of_mem _ h1, h2⟩
    · cases h
theorem drawE_ok {K : St → Prop} (hT : T.Good P) (hC : C.Ok P w0 M) {ops : Array Oper} (hsel : Region.noSelect ops = true) {Q : Exit → Act → World → Prop} (hQp : ∀ c a w, ¬ Q (.panic c) a w) (hQ : ∀ s' a' w' g', K s' → Sim w0 M n s' a' w' g' → Q .normal a' w') :
    ∀ (f : Nat) {ls : List Bool} {s : St} {a : Act} {w : World} {g : Gh}, Sim w0 M n s a w g → drawE T C n ops f ls s K → wpAny P .any ops Q f ⟨ls⟩ a w := by
  intro f
  induction f with
  | zero =>
    intro ls s a w g hs h
    unfold drawE at h
    split at h
    · rename_i he
      rw [rdyL_eq] at he
      exact ⟨he, hQ s a w g h hs⟩
    · exact h.elim
  | succ f ih =>
    intro ls s a w g hs h
    unfold drawE at h
    split at h
    · rename_i he
      rw [rdyL_eq] at he
      exact ⟨fun _ => hQ s a w g h hs, fun i hi => by rw [he] at hi; cases hi⟩
    · rename_i i0 is0 he
      rw [rdyL_eq] at he
      have hne : Region.ready .any ops ⟨ls⟩ ≠ [] := fun e => by rw [he] at e; cases e
      have hset : ∀ i, (⟨ls⟩ : Array Bool).setIfInBounds i true = ⟨ls.set i true⟩ := fun i => by simp
      split at h
      · rename_i p hpick
        obtain ⟨h1, h2, h3, h4⟩ := pickPure_ok (i := p.1) (o := p.2) hpick
        rw [freeL_eq] at h4
        rw [Array.getElem?_toList] at h2
        obtain ⟨v, s', g', k1, k2, k3⟩ := (stepE_ok hT hC hs h).2 h3
        refine wpAny_first h2 (Region.noSelect_spec hsel) (fun c a w hq => absurd hq (hQp c _ w)) f ⟨ls⟩ a w (Region.free_spec h2 h4) (by rw [he]; exact h1) k3 ?_
        rw [hset]
        exact ih k2 k1
      · refine ⟨fun e => absurd e hne, fun i hi => ?_⟩
        rw [he] at hi
        have hi2 := allE_mem h i hi
        rw [Array.getElem?_toList] at hi2
        unfold wpOp
        split at hi2
        · rename_i o ho
          simp only [ho]
          refine (stepE_ok hT hC hs hi2).1 _ Q fun s' a' w' g' k1 k2 => ?_
          rw [hset]
          exact ih k2 k1
        · exact hi2.elim
theorem Sim.drew (hs : Sim w0 M n s a w g) : Sim w0 M n s a { w with drawn := w.drawn + 1 } g := by
  have he : Ext s g w s g { w with drawn := w.drawn + 1 } := ⟨fun _ h => ⟨rfl, h⟩, fun _ h => ⟨h, Nat.le_refl _, fun _ _ => rfl⟩, fun _ _ _ h h2 _ => by rw [h] at h2; cases h2; exact ⟨rfl, rfl, rfl⟩, fun _ h => ⟨h, rfl⟩, fun _ h => ⟨h, rfl⟩, rfl⟩
  exact { hs with
    tm := fun t => VR.ext he (hs.tm t)
    bx := fun id b hb => (hs.bx id b hb).keep he ⟨rfl, (hs.bx id b hb).lab⟩ rfl
    rw := fun id r hr => (hs.rw id r hr).keep he.ok (fun b hb => ⟨rfl, hb⟩) rfl rfl
    mp := fun id c hc => (hs.mp id c hc).keep ⟨rfl, (hs.mp id c hc).lab⟩ rfl }
def NoPan (Q : Exit → Act → World → Prop) : Exit → Act → World → Prop
  | .panic _, _, _ => False
  | .normal, a, w => Q .normal a w
  | .exit i, a, w => Q (.exit i) a w
  | .goto l, a, w => Q (.goto l) a w
  | .ret, a, w => Q .ret a w
  | .outgrown, a, w => Q .outgrown a w
def Ex.out : Ex → Exit
  | .nor => .normal
  | .exit id => .exit id
  | .ret => .ret
/-- From a loop's head on. -/
def HeadWp (P : Program) (c : Code) (Q : Exit → Act → World → Prop) (a : Act) (w : World) : Prop :=
  ∀ (b : Frame) (k : List Item) (cs : List Frame), ∃ e a' w', Q e a' w' ∧ Arrives P (lone (b.at a (.code c :: .inLoop c :: k)) cs w) b k cs e a' w'
theorem loop_of_head {c : Code} {Q : Exit → Act → World → Prop} (h : HeadWp P c Q a w) : (Code.loop c).wp P Q a w := fun b k cs => by
  obtain ⟨e, a', w', h1, h2⟩ := h b k cs
  exact ⟨e, a', w', h1, .of_steps (.one step_loop) h2⟩
theorem head_round {c : Code} {Q : Exit → Act → World → Prop} (h : c.wp P (Exit.then (HeadWp P c Q) Q) a w) : HeadWp P c Q a w := fun b k cs => by
  obtain ⟨e, a₁, w₁, hq, harr⟩ := h b (.inLoop c :: k) cs
  cases e with
  | normal =>
    obtain ⟨e₂, a₂, w₂, hq₂, harr₂⟩ := hq b k cs
    exact ⟨e₂, a₂, w₂, hq₂, .of_steps (Steps.trans harr (.one step_inLoop)) harr₂⟩
  | exit id => exact ⟨_, a₁, w₁, hq, .pass (x := .inLoop c) rfl (fun _ _ => .inl (by simp)) harr⟩
  | goto l => exact ⟨_, a₁, w₁, hq, .pass (x := .inLoop c) rfl (fun _ _ => .inl (by simp)) harr⟩
  | ret => exact ⟨_, a₁, w₁, hq, .pass (x := .inLoop c) rfl (fun _ _ => .inl (by simp)) harr⟩
  | panic ch => exact ⟨_, a₁, w₁, hq, .pass (x := .inLoop c) rfl (fun _ _ => .inl (by simp)) harr⟩
  | outgrown => exact ⟨_, a₁, w₁, hq, .pass (x := .inLoop c) rfl (fun _ _ => .inl (by simp)) harr⟩
theorem codeE_ok (hT : T.Good P) (hm : P.follows .mixedOrders = true) (hC : C.Ok P w0 M) (hpn : ∀ p ∈ M.pin, p.1 ∈ N.pins) : ∀ (c : Code) {K : Ex → St → Prop} {Q : Exit → Act → World → Prop} {s : St} {a : Act} {w : World} {g : Gh}, (∀ e s' a' w' g', K e s' → Sim w0 M n s' a' w' g' → Q e.out a' w') →
    Sim w0 M n s a w g → codeE T C n N c s K → c.wp P Q a w := by
  intro c
  induction c with
  | skip => exact fun {K Q s a w g} hQ hs h => wp_skip (hQ .nor s a w g h hs)
  | region id ops draw =>
    intro K Q s a w g hQ hs h
    cases draw with
    | true =>
      cases hql : quietL T ops.toList with
      | true =>
        have h' : opsE T C n ops ops.toList s (K .nor) := by
          have := h
          unfold codeE at this
          rw [hql] at this
          exact this
        obtain ⟨q1, q2⟩ := quietL_ok hql
        have hd := hs.drew
        refine wp_region_quiet (C := fun w' => w' = { w with drawn := w.drawn + 1 }) hm q2 rfl ?_
        have := opsE_quiet (w := { w with drawn := w.drawn + 1 }) hT hC ops.toList q1 hd h'
        refine wpQuiet_mono' (fun a' ha w' e => ?_) _ this
        obtain ⟨s', m1, m2⟩ := ha
        subst e
        exact hQ .nor s' a' _ g m1 m2
      | false =>
      have h' : (bif noSel ops.toList then drawE T C n ops ops.size (List.replicate ops.size false) s (K .nor) else False) := by
        have := h
        unfold codeE at this
        rw [hql] at this
        exact this
      rw [noSel_eq (ops := ops)] at h'
      cases hsel : Region.noSelect ops with
      | false => rw [hsel] at h'; exact h'.elim
      | true =>
      rw [hsel] at h'
      have := wp_region_any (P := P) (id := id) (Q := NoPan Q) (a := a) (w := w) hm
        (drawE_ok hT hC hsel (Q := NoPan Q) (fun c a w hq => hq) (fun s' a' w' g' k1 k2 => hQ .nor s' a' w' g' k1 k2) _ hs.drew h')
      exact wp_mono this (fun e a w hq => by cases e <;> first | exact hq | exact hq.elim)
    | false => exact wp_region_list (opsE_ok hT hC (fun s' a' w' g' k1 k2 => hQ .nor s' a' w' g' k1 k2) _ hs h)
  | seq x y ihx ihy =>
    intro K Q s a w g hQ hs h
    unfold codeE at h
    split at h
    · refine wp_seq (ihx (fun e s' a' w' g' hk hs' => ?_) hs h)
      cases e with
      | nor =>
        show y.wp P Q a' w'
        exact ihy hQ hs' hk
      | exit id => exact hQ (.exit id) s' a' w' g' hk hs'
      | ret => exact hQ .ret s' a' w' g' hk hs'
    · obtain ⟨J, hb, ha⟩ := h
      refine wp_seq (ihx (fun e s' a' w' g' hk hs' => ?_) hs ha)
      cases e with
      | nor =>
        show y.wp P Q a' w'
        obtain ⟨s2, g2, k1, k2⟩ := normE_ok hpn hs' hk
        exact ihy hQ k1 (hb _ k2)
      | exit id => exact hQ (.exit id) s' a' w' g' hk hs'
      | ret => exact hQ .ret s' a' w' g' hk hs'
  | cond c x y ihx ihy =>
    intro K Q s a w g hQ hs h
    unfold codeE at h
    split at h
    · rename_i b hb
      have hc := opnd_ok (T := T) hs 0 c
      rw [hb] at hc
      refine wp_cond (VR.bool hc) ?_
      cases b with
      | true => exact ihx hQ hs h
      | false => exact ihy hQ hs h
    · exact h.elim
  | block id c ih =>
    intro K Q s a w g hQ hs h
    refine wp_block (ih (fun e s' a' w' g' hk hs' => ?_) hs h)
    cases e with
    | nor => exact hQ .nor s' a' w' g' hk hs'
    | exit j =>
      have hk' : (bif Nat.beq j id then K .nor s' else K (.exit j) s') := hk
      show (if j = id then Q .normal a' w' else Q (.exit j) a' w')
      cases hb : Nat.beq j id with
      | true => rw [hb] at hk'; rw [if_pos (Nat.eq_of_beq_eq_true hb)]; exact hQ .nor s' a' w' g' hk' hs'
      | false => rw [hb] at hk'; rw [if_neg (beq_ne hb)]; exact hQ (.exit j) s' a' w' g' hk' hs'
    | ret => exact hQ .ret s' a' w' g' hk hs'
  | loop c ih =>
    intro K Q s a w g hQ hs h
    unfold codeE at h
    split at h
    · rename_i sp hsp
      obtain ⟨J, hb, ha⟩ := h
      have key : ∀ k s, J k s → ∀ a w g, Sim w0 M n s a w g → HeadWp P c Q a w := by
        intro k
        induction k using Nat.strongRecOn with
        | _ k ih2 =>
          intro s hj a w g hs
          refine head_round (ih (fun e s' a' w' g' hk hs' => ?_) hs (hb k s hj))
          cases e with
          | nor =>
            obtain ⟨s2, g2, k2, ⟨k', k1, k3⟩⟩ := normE_ok hpn hs' hk
            exact ih2 k' k1 s2 k3 a' w' g2 k2
          | exit id => exact hQ (.exit id) s' a' w' g' hk hs'
          | ret => exact hQ .ret s' a' w' g' hk hs'
      obtain ⟨s2, g2, k2, ⟨k, k1⟩⟩ := normE_ok hpn hs ha
      exact loop_of_head (key k s2 k1 a w g2 k2)
    · exact h.elim
  | exit id => exact fun {K Q s a w g} hQ hs h => wp_exit (hQ (.exit id) s a w g h hs)
  | ret => exact fun {K Q s a w g} hQ hs h => wp_ret (hQ .ret s a w g h hs)
  | _ => intro K Q s a w g hQ hs h; exact h.elim
end
end Go.Ab
/- A function, told; and that it does as told. No conditions. -/
namespace Go.Ab
open Go
def pinIds (n : Nat) : Nat → List PM → List Nat
  | _, [] => []
  | i, .ptr _ :: ps => (n + i) :: pinIds n (i + 1) ps
  | i, .val _ :: ps => pinIds n (i + 1) ps
  | i, .rd _ :: ps => pinIds n (i + 1) ps
  | i, .fn _ :: ps => pinIds n (i + 1) ps
  | i, .rdf _ :: ps => pinIds n (i + 1) ps
  | i, .own _ _ :: ps => pinIds n (i + 1) ps
def rdC : List TV → AV
  | [x] => sv1 (.loc x.t x.x)
  | _ => .un
/-- The slots at the beginning; j counts the functions. -/
def initT (n : Nat) : Nat → Nat → List PM → List (List TV) → List (Nat × AV)
  | i, j, .val agg :: ps, xs :: ins => (i, .sv agg (datC xs)) :: initT n (i + 1) j ps ins
  | i, j, .ptr _ :: ps, _ :: ins => (i, sv1 (.ptr (n + i) 0)) :: initT n (i + 1) j ps ins
  | i, j, .rd _ :: ps, xs :: ins => (i, rdC xs) :: initT n (i + 1) j ps ins
  | i, j, .fn _ :: ps, ins => (i, sv1 (.fnp j)) :: initT n (i + 1) (j + 1) ps ins
  | i, j, .rdf _ :: ps, ins => (i, sv1 (.locf j)) :: initT n (i + 1) (j + 1) ps ins
  | i, j, .own _ _ :: ps, _ :: ins => (i, sv1 (.own (n + i) 0)) :: initT n (i + 1) j ps ins
  | _, _, _, _ => []
def initB (n : Nat) : Nat → List PM → List (List TV) → List (Nat × Box)
  | i, .val _ :: ps, _ :: ins => initB n (i + 1) ps ins
  | i, .ptr ty :: ps, xs :: ins => (n + i, ⟨ty, datC xs⟩) :: initB n (i + 1) ps ins
  | i, .rd _ :: ps, _ :: ins => initB n (i + 1) ps ins
  | i, .fn _ :: ps, ins => initB n (i + 1) ps ins
  | i, .rdf _ :: ps, ins => initB n (i + 1) ps ins
  | i, .own _ _ :: ps, _ :: ins => initB n (i + 1) ps ins
  | _, _, _ => []
def initR (n : Nat) : Nat → List PM → List (List TV) → List (Nat × Row)
  | i, .val _ :: ps, _ :: ins => initR n (i + 1) ps ins
  | i, .ptr _ :: ps, _ :: ins => initR n (i + 1) ps ins
  | i, .rd _ :: ps, _ :: ins => initR n (i + 1) ps ins
  | i, .fn _ :: ps, ins => initR n (i + 1) ps ins
  | i, .rdf _ :: ps, ins => initR n (i + 1) ps ins
  | i, .own _ _ :: ps, [⟨.row e t, ys⟩] :: ins => (n + i, ⟨e, t, ys, 0⟩) :: initR n (i + 1) ps ins
  | _, _, _ => []
def fsOf : List PM → List Rel → List (Sig × Rel)
  | .fn sg :: ps, R :: Rs => (sg, R) :: fsOf ps Rs
  | .rdf sg :: ps, R :: Rs => (sg, R) :: fsOf ps Rs
  | .val _ :: ps, Rs => fsOf ps Rs
  | .ptr _ :: ps, Rs => fsOf ps Rs
  | .rd _ :: ps, Rs => fsOf ps Rs
  | .own _ _ :: ps, Rs => fsOf ps Rs
  | _, _ => []
/-- Cells that hold what is told, none of them a row of one's own. -/
def matchD (s : St) : List TV → List CV → Prop
  | [], [] => True
  | x :: xs, c :: cs => (noSub [c] = true ∧ c.tv s = some x) ∧ matchD s xs cs
  | _, _ => False
def ownOut (s : St) (x : TV) : CV → Prop
  | .own id gen => match CV.rowId s id gen with | some r => x = ⟨.row r.e r.t, r.xs⟩ | none => False
  | .nil e t => x = ⟨.row e t, ([] : List t.den)⟩
  | .sub id gen lo hi => match CV.rowId s id gen with | some r => lo = 0 ∧ x = ⟨.row r.e r.t, tk r.xs hi⟩ | none => False
  | _ => False
def matchC (s : St) : List Bool → List TV → List CV → Prop
  | [], [], [] => True
  | false :: fs, x :: xs, c :: cs => (noSub [c] = true ∧ c.tv s = some x) ∧ matchC s fs xs cs
  | true :: fs, x :: xs, c :: cs => ownOut s x c ∧ matchC s fs xs cs
  | _, _, _ => False
def matchV (s : St) : List (Bool × List Bool) → List (List TV) → List AV → Prop
  | [], [], [] => True
  | m :: ms, xs :: outs, .sv agg cs :: avs => (agg = m.1 ∧ matchC s m.2 xs cs) ∧ matchV s ms outs avs
  | _, _, _ => False
def matchB (n : Nat) (s : St) : Nat → List PM → List (List TV) → Prop
  | _, [], [] => True
  | i, .val _ :: ps, ns => matchB n s (i + 1) ps ns
  | i, .rd _ :: ps, ns => matchB n s (i + 1) ps ns
  | i, .fn _ :: ps, ns => matchB n s (i + 1) ps ns
  | i, .rdf _ :: ps, ns => matchB n s (i + 1) ps ns
  | i, .own _ _ :: ps, [] :: ns => matchB n s (i + 1) ps ns
  | i, .ptr ty :: ps, xs :: ns => (match s.bx (n + i) with | some b => b.ty = ty ∧ matchD s xs b.cs | none => False) ∧ matchB n s (i + 1) ps ns
  | _, _, _ => False
def cntT : List Bool → Nat
  | [] => 0
  | true :: l => cntT l + 1
  | false :: l => cntT l
def cntV : List (Bool × List Bool) → Nat
  | [] => 0
  | m :: ms => cntT m.2 + cntV ms
/-- The cells that are handed back to be read alone. -/
def readC : List Bool → List CV → List CV
  | false :: fs, c :: cs => c :: readC fs cs
  | true :: fs, _ :: cs => readC fs cs
  | _, _ => []
def readV : List (Bool × List Bool) → List AV → List CV
  | m :: ms, .sv _ cs :: avs => readC m.2 cs ++ readV ms avs
  | _, _ => []
def readB (n : Nat) (s : St) : Nat → List PM → List CV
  | _, [] => []
  | i, .ptr _ :: ps => (match s.bx (n + i) with | some b => b.cs | none => []) ++ readB n s (i + 1) ps
  | i, _ :: ps => readB n s (i + 1) ps
/-- The results, as they stand at the end. -/
def resE (T : Tab) (s : St) : List ResultVar → (List AV → Prop) → Prop
  | [], K => K []
  | .tmp t :: rs, K => resE T s rs fun avs => K (s.tm t :: avs)
  | .cell d t :: rs, K => loadE T t s (s.tm d) fun av => resE T s rs fun avs => K (av :: avs)
def retE (T : Tab) (n : Nat) (c : Con) (ts : List ResultVar) (out : List (List TV) × List (List TV)) (s : St) : Prop :=
  resE T s ts fun avs0 => frzAll s (readV c.rs avs0 ++ readB n s 0 c.ps) fun s1 => resE T s1 ts fun avs => matchV s1 c.rs out.1 avs ∧ matchB n s1 0 c.ps out.2
def LenTV : TV → Prop
  | ⟨.row _ _, xs⟩ => xs.length ≤ 9223372036854775807
  | _ => True
def LenOk (ins : List (List TV)) : Prop := ∀ xs ∈ ins, ∀ x ∈ xs, LenTV x
def fnE (T : Tab) (C : FuncId → Option Con) (n : Nat) (N : Specs) (body : Code) (ts : List ResultVar) (c : Con) : Prop :=
  ∀ Rs ins out, LenOk ins → c.F Rs ins out → codeE T ⟨C, fsOf c.ps Rs⟩ n N body (mkSt (initT n 0 0 c.ps ins) (initB n 0 c.ps ins) (initR n 0 c.ps ins) []) fun e s => match e with
    | .exit _ => False
    | _ => retE T n c ts out s
section
variable {P : Program} {T : Tab} {C : CTab} {N : Specs} {w0 w w' : World} {M : Mv} {n : Nat} {s s' : St} {a : Act} {g g' : Gh}
theorem load_cell {t : TypeId} {v u : Value} (h : (Instr.loadAt t v).run P w = .ok u w) : (do loadVar t (← asAddr v) : Sem Value).run P w = .ok u w := by
  unfold Instr.loadAt at h
  cases v with
  | pointer p =>
    cases p with
    | some ad => simpa [Instr.sureAddr, asAddr] using h
    | none => simp [Instr.sureAddr] at h
  | _ => simp [Instr.sureAddr] at h
theorem resE_ok (hT : T.Good P) (hs : Sim w0 M n s a w g) : ∀ {ts : List ResultVar} {K : List AV → Prop}, resE T s ts K → ∃ avs vs, K avs ∧ All2 (fun av v => VR w g s av v) avs vs ∧
    (ts.mapM fun (x : ResultVar) => match x with | .tmp t => (pure (a.tmps.getD t undef) : Sem Value) | .cell d t => do loadVar t (← asAddr (a.tmps.getD d undef))).run P w = .ok vs w
  | [], K, h => ⟨[], [], h, .nil, rfl⟩
  | .tmp t :: ts, K, h => by
    obtain ⟨avs, vs, h1, h2, h3⟩ := resE_ok hT hs (ts := ts) (K := fun avs => K (s.tm t :: avs)) h
    refine ⟨_, _, h1, .cons (hs.tm t) h2, ?_⟩
    simp only [List.mapM_cons, Sem.run_bind, Sem.run_pure, Result.andThen_ok, h3]
  | .cell d t :: ts, K, h => by
    obtain ⟨av, u, h1, h2, h3⟩ := loadE_ok (K := fun av => resE T s ts fun avs => K (av :: avs)) hT hs h (hs.tm d)
    obtain ⟨avs, vs, k1, k2, k3⟩ := resE_ok hT hs (ts := ts) (K := fun avs => K (av :: avs)) h1
    refine ⟨_, _, k1, .cons h2 k2, ?_⟩
    rw [List.mapM_cons, Sem.run_bind]
    refine (congrArg (fun r => Result.andThen r _) (load_cell h3)).trans ?_
    simp only [Sem.run_bind, Sem.run_pure, Result.andThen_ok, k3]
theorem run_results {fn : Func} {ts : List ResultVar} (hr : fn.results = ts.toArray) {tmps : Array Value} {vs : List Value}
    (h : (ts.mapM fun (x : ResultVar) => match x with | .tmp t => (pure (tmps.getD t undef) : Sem Value) | .cell d t => do loadVar t (← asAddr (tmps.getD d undef))).run P w = .ok vs w) :
    (results fn tmps).run P w = .ok (match vs with | [v] => v | vs => .tuple vs.toArray) w := by
  have key : (ts.toArray.mapM (fun (x : ResultVar) => match x with | .tmp t => (pure (tmps.getD t undef) : Sem Value) | .cell a t => do loadVar t (← asAddr (tmps.getD a undef)))).run P w = .ok vs.toArray w := by
    rw [List.mapM_toArray]
    have hmap : ∀ {α β : Type} (f : α → β) (m : Sem α), (f <$> m).run P w = (m.run P w).andThen fun a w => .ok (f a) w := fun f m => by
      show ((m >>= fun a => pure (f a)) : Sem _).run P w = _
      rw [Sem.run_bind]; rfl
    rw [hmap, h]
    rfl
  unfold results
  rw [hr, Sem.run_bind]
  refine (congrArg (fun r => Result.andThen r _) key).trans ?_
  match vs with
  | [] => rfl
  | [t] => rfl
  | _ :: _ :: _ => rfl
theorem matchD_rel (hs : Sim w0 M n s a w g) : ∀ {xs : List TV} {cs : List CV} {vs : List Value}, matchD s xs cs → CRs w g s cs vs → CellIn w (okL g.lab) xs vs
  | [], [], [], _, _ => trivial
  | x :: xs, c :: cs, v :: vs, h, hr => ⟨⟨hr.1.1, tv_rel hs h.1.2 hr.1.2 (fun _ h => h) (fun id e => by rw [(noSub_row h.1.1).1] at e; cases e)⟩, matchD_rel hs h.2 hr.2⟩
/-- The row that is handed back as the caller's own. -/
theorem ownOut_rel (hs : Sim w0 M n s a w g) {x : TV} {c : CV} {v : Value} (h : ownOut s x c) (hr : CR w g s c v) : (∀ b, v.ownBlock = some b → ∃ id, g.lab b = .row id) ∧
    ∃ (e : TypeId) (t : Ty) (ys : List t.den) (cs : List Value), x = ⟨.row e t, ys⟩ ∧ w.ownsRow 0 e t.sz v ys.length cs ∧ CKs w (okL g.lab) t ys cs := by
  cases c with
  | own id gen =>
    simp only [ownOut] at h
    split at h
    · rename_i r hr0
      obtain ⟨h0, rfl⟩ := rowId_eq hr0
      obtain ⟨_, m2, cs, m3, m4⟩ := hs.rw id r h0
      rw [hr.2.2]
      exact ⟨fun b hb => ⟨id, m2 b hb⟩, r.e, r.t, r.xs, cs, h, m3, m4⟩
    · exact h.elim
  | nil e t =>
    rw [show v = _ from hr]
    exact ⟨(fun b hb => by cases hb), e, t, [], [], h, World.ownsRow_nil w 0 e t.sz, rfl⟩
  | sub id gen lo hi =>
    simp only [ownOut] at h
    split at h
    · rename_i q hr0
      obtain ⟨rfl, h⟩ := h
      obtain ⟨h0, rfl⟩ := rowId_eq hr0
      obtain ⟨_, m2, cs0, m3, m4⟩ := hs.rw id q h0
      obtain ⟨p1, p2, p3⟩ := hr.2.2 q h0 rfl
      simp only [tk_eq] at h ⊢
      generalize hi.getD q.xs.length = hi at h p1 p2 p3 ⊢
      have htk : CKs w (okL g.lab) q.t (q.xs.take hi) (cs0.take (hi * q.t.sz)) := by
        have key : ∀ (k : Nat) {xs : List q.t.den} {cs : List Value}, CKs w (okL g.lab) q.t xs cs → CKs w (okL g.lab) q.t (xs.take k) (cs.take (k * q.t.sz)) := by
          intro k
          induction k with
          | zero => intro xs cs h; simp only [Nat.zero_mul, List.take_zero]; exact rfl
          | succ k ih =>
            intro xs cs h
            match xs, h with
            | [], h => rw [show cs = [] from h]; simp only [List.take_nil]; exact rfl
            | x :: xs, ⟨c1, c2, e, h1, h2⟩ =>
              have hl := h1.len
              have e2 : (k + 1) * q.t.sz = c1.length + k * q.t.sz := by rw [Nat.add_mul, Nat.one_mul, hl]; omega
              rw [e, List.take_succ_cons, e2, List.take_length_add_append]
              exact ⟨c1, _, rfl, h1, ih h2⟩
        exact key hi m4
      have hhl : (q.xs.take hi).length = hi := by rw [List.length_take]; omega
      have hlen := htk.len
      rw [hhl] at hlen
      rw [p3]
      rcases m3.2 with ⟨e, hn⟩ | ⟨b, cap, cur, e, x1, x2, x3, x4, x5, x6⟩
      · rw [e]
        have h00 : hi = 0 := by omega
        refine ⟨(fun b hb => by simp [subV, Value.ownBlock] at hb), q.e, q.t, _, _, h, ?_, htk⟩
        rw [hhl, h00]
        exact ⟨by rw [h00] at hlen; rw [← h00]; rw [h00]; exact hlen, .inl ⟨by simp [subV], rfl⟩⟩
      · rw [e]
        have hA : (if cap = 0 then some (⟨b, 0, none⟩ : Addr) else (some (⟨b, 0, none⟩ : Addr)).map (·.add (0 * q.t.sz))) = some ⟨b, 0, none⟩ := by
          split
          · rfl
          · simp [Addr.add]
        simp only [subV, hA, Nat.sub_zero]
        refine ⟨fun b' hb => ⟨id, m2 b' (by rw [e]; exact hb)⟩, q.e, q.t, _, _, h, ?_, htk⟩
        rw [hhl]
        refine ⟨hlen, .inr ⟨b, cap, cur, rfl, x1, x2, by omega, x4, x5, ?_⟩⟩
        rw [← x6, List.take_take]
        congr 1
        have : hi * q.t.sz ≤ q.xs.length * q.t.sz := Nat.mul_le_mul_right _ p2
        omega
    · exact h.elim
  | _ => exact h.elim
end
end Go.Ab
/- A function does as told, from its arguments to its results. No conditions. -/
namespace Go.Ab
open Go
section
variable {P : Program} {T : Tab} {C : CTab} {N : Specs} {w0 w w' : World} {M : Mv} {n : Nat} {s s' : St} {a : Act} {g g' : Gh}
theorem CellIn.mono {ok ok2 : Nat → Prop} (h : ∀ b, ok b → ok2 b) : ∀ {xs : List TV} {vs : List Value}, CellIn w ok xs vs → CellIn w ok2 xs vs
  | [], [], _ => trivial
  | _ :: _, _ :: _, hh => ⟨⟨hh.1.1, CK.frame (fun _ _ => rfl) h hh.1.2⟩, CellIn.mono h hh.2⟩
theorem CellOut.mono {ok ok2 : Nat → Prop} {O : Option Nat} (h : ∀ b, ok b → ok2 b) : ∀ {fs : List Bool} {xs : List TV} {vs : List Value}, CellOut w ok O fs xs vs → CellOut w ok2 O fs xs vs
  | [], [], [], _ => trivial
  | false :: _, _ :: _, _ :: _, hh => ⟨⟨hh.1.1, CK.frame (fun _ _ => rfl) h hh.1.2⟩, CellOut.mono h hh.2⟩
  | true :: _, _ :: _, _ :: _, hh => by
    obtain ⟨⟨h1, h2, e, t, ys, cs, h3, h4, h5⟩, h6⟩ := hh
    exact ⟨⟨h1, h2, e, t, ys, cs, h3, h4, h5.frame (fun _ _ => rfl) h⟩, CellOut.mono h h6⟩
theorem ValOut.mono {ok ok2 : Nat → Prop} {O : Option Nat} (h : ∀ b, ok b → ok2 b) {m : Bool × List Bool} {xs : List TV} {v : Value} (hh : ValOut w ok O m xs v) : ValOut w ok2 O m xs v := by
  obtain ⟨a, fs⟩ := m
  cases a with
  | true => obtain ⟨arr, e, h2⟩ := hh; exact ⟨arr, e, CellOut.mono h h2⟩
  | false => exact CellOut.mono (fs := fs) (xs := xs) (vs := [v]) h hh
theorem ValsOut.mono {ok ok2 : Nat → Prop} {O : Option Nat} (h : ∀ b, ok b → ok2 b) : ∀ {ms : List (Bool × List Bool)} {outs : List (List TV)} {vs : List Value}, ValsOut w ok O ms outs vs → ValsOut w ok2 O ms outs vs
  | [], [], [], _ => trivial
  | _ :: _, _ :: _, _ :: _, hh => ⟨ValOut.mono h hh.1, ValsOut.mono h hh.2⟩
def RowLab (g : Gh) (O : Option Nat) : Prop := ∀ b, O = some b → ∃ id, g.lab b = .row id
theorem matchC_rel (hs : Sim w0 M n s a w g) : ∀ {fs : List Bool} {xs : List TV} {cs : List CV} {vs : List Value}, matchC s fs xs cs → CRs w g s cs vs → cntT fs ≤ 1 → ∃ O, RowLab g O ∧ ∀ O', cntT fs = 0 ∨ O' = O → CellOut w (okL g.lab) O' fs xs vs
  | [], [], [], [], _, _, _ => ⟨none, fun b h => (by cases h), fun _ _ => trivial⟩
  | false :: fs, x :: xs, c :: cs, v :: vs, h, hr, hc => by
    obtain ⟨O, h1, h2⟩ := matchC_rel hs h.2 hr.2 hc
    exact ⟨O, h1, fun O' hO => ⟨⟨hr.1.1, tv_rel hs h.1.2 hr.1.2 (fun _ h => h) (fun id e => by rw [(noSub_row h.1.1).1] at e; cases e)⟩, h2 O' hO⟩⟩
  | true :: fs, x :: xs, c :: cs, v :: vs, h, hr, hc => by
    have hc0 : cntT fs = 0 := by have : cntT fs + 1 ≤ 1 := hc; omega
    obtain ⟨O, h1, h2⟩ := matchC_rel hs h.2 hr.2 (by omega)
    obtain ⟨k1, e, t, ys, cs0, k2, k3, k4⟩ := ownOut_rel hs h.1 hr.1.2
    refine ⟨v.ownBlock, k1, fun O' hO => ?_⟩
    have hO' : O' = v.ownBlock := by
      rcases hO with hO | hO
      · have : cntT fs + 1 = 0 := hO; omega
      · exact hO
    subst hO'
    exact ⟨⟨hr.1.1, rfl, e, t, ys, cs0, k2, k3, k4⟩, h2 _ (.inl hc0)⟩
theorem matchV_rel (hs : Sim w0 M n s a w g) : ∀ {ms : List (Bool × List Bool)} {outs : List (List TV)} {avs : List AV} {vs : List Value}, All2 (fun av v => VR w g s av v) avs vs → matchV s ms outs avs → cntV ms ≤ 1 → ∃ O, RowLab g O ∧ ∀ O', cntV ms = 0 ∨ O' = O → ValsOut w (okL g.lab) O' ms outs vs
  | [], [], [], _, .nil, _, _ => ⟨none, fun b h => (by cases h), fun _ _ => trivial⟩
  | m :: ms, xs :: outs, av :: avs0, v0 :: vs0, .cons hv hvs, h, hc => by
    have hc' : cntT m.2 + cntV ms ≤ 1 := hc
    unfold matchV at h
    split at h
    · rename_i hh _ _; cases hh
    · rename_i m' ms' xs' outs' agg cs avs e1 e2 e3
      cases e1; cases e2
      injection e3 with e3 e4
      rw [e3] at hv
      subst e4
      obtain ⟨⟨rfl, hm⟩, h2⟩ := h
      obtain ⟨O2, p1, p2⟩ := matchV_rel hs hvs h2 (by omega)
      have hval : ∃ O, RowLab g O ∧ ∀ O', cntT m.2 = 0 ∨ O' = O → ValOut w (okL g.lab) O' m xs v0 := by
        obtain ⟨agg, fs⟩ := m
        cases agg with
        | true =>
          obtain ⟨arr, e, hr⟩ := hv
          obtain ⟨O, q1, q2⟩ := matchC_rel hs hm hr (by have : cntT fs + cntV ms ≤ 1 := hc'; omega)
          exact ⟨O, q1, fun O' hO => ⟨arr, e, q2 O' hO⟩⟩
        | false => exact matchC_rel hs hm (vs := [_]) hv (by have : cntT fs + cntV ms ≤ 1 := hc'; omega)
      obtain ⟨O1, q1, q2⟩ := hval
      by_cases h0 : cntT m.2 = 0
      · refine ⟨O2, p1, fun O' hO => ⟨q2 O' (.inl h0), p2 O' ?_⟩⟩
        rcases hO with hO | hO
        · have : cntT m.2 + cntV ms = 0 := hO; exact .inl (by omega)
        · exact .inr hO
      · refine ⟨O1, q1, fun O' hO => ⟨q2 O' ?_, p2 O' (.inl (by omega))⟩⟩
        rcases hO with hO | hO
        · have : cntT m.2 + cntV ms = 0 := hO; omega
        · exact .inr hO
    · exact h.elim
  | [], _ :: _, _, _, _, h, _ => by cases h
  | [], [], _ :: _, _, _, h, _ => by cases h
  | _ :: _, [], _, _, _, h, _ => by cases h
  | _ :: _, _ :: _, [], _, _, h, _ => by cases h
theorem matchB_rel (hs : Sim w0 M n s a w g) {O : Option Nat} {G : Nat → Prop} : ∀ {ps : List PM} {i : Nat} {ns : List (List TV)} {vs : List Value} {bs : List Nat}, matchB n s i ps ns → vs.length = ps.length → (∀ p ∈ (pinIds n i ps).zip bs, g.bb p.1 = p.2) → (pinIds n i ps).length = bs.length → VarsOut w (okL g.lab) O G ps ns vs bs
  | [], i, [], vs, bs, _, _, _, hl => by
    cases bs with
    | nil => exact ⟨rfl, rfl⟩
    | cons _ _ => cases hl
  | .val _ :: ps, i, ns, _ :: vs, bs, h, hv, hb, hl => matchB_rel (ps := ps) (i := i + 1) hs h (by simpa using hv) hb hl
  | .rd _ :: ps, i, ns, _ :: vs, bs, h, hv, hb, hl => matchB_rel (ps := ps) (i := i + 1) hs h (by simpa using hv) hb hl
  | .fn _ :: ps, i, ns, _ :: vs, bs, h, hv, hb, hl => matchB_rel (ps := ps) (i := i + 1) hs h (by simpa using hv) hb hl
  | .rdf _ :: ps, i, ns, _ :: vs, bs, h, hv, hb, hl => matchB_rel (ps := ps) (i := i + 1) hs h (by simpa using hv) hb hl
  | .own _ _ :: ps, i, [] :: ns, _ :: vs, bs, h, hv, hb, hl => ⟨.inl rfl, matchB_rel (ps := ps) (i := i + 1) hs h (by simpa using hv) hb hl⟩
  | .ptr ty :: ps, i, xs :: ns, _ :: vs, bs, h, hv, hb, hl => by
    obtain ⟨h1, h2⟩ := h
    cases bs with
    | nil => cases hl
    | cons b bs =>
      have hb0 := hb (n + i, b) List.mem_cons_self
      refine ⟨?_, matchB_rel hs h2 (by simpa using hv) (fun p hp => hb p (List.mem_cons_of_mem _ hp)) (by simpa [pinIds] using hl)⟩
      split at h1
      · rename_i bb hbb
        obtain ⟨l1, arr, l2, l3⟩ := hs.bx _ bb hbb
        rw [hb0] at l2
        exact ⟨arr, by rw [← h1.1]; exact l2, matchD_rel hs h1.2 l3⟩
      · exact h1.elim
  | [], _, _ :: _, _, _, h, _, _, _ => by cases h
  | .ptr _ :: _, _, [], _, _, h, _, _, _ => by cases h
  | .own _ _ :: _, _, [], _, _, h, _, _, _ => by cases h
  | .own _ _ :: _, _, (_ :: _) :: _, _, _, h, _, _, _ => by cases h
  | .val _ :: _, _, _, [], _, _, h, _, _ => by cases h
  | .rd _ :: _, _, _, [], _, _, h, _, _ => by cases h
  | .fn _ :: _, _, _, [], _, _, h, _, _ => by cases h
  | .rdf _ :: _, _, _, [], _, _, h, _, _ => by cases h
  | .own _ _ :: _, _, [] :: _, [], _, _, h, _, _ => by cases h
  | .ptr _ :: _, _, _ :: _, [], _, _, h, _, _ => by cases h
/-- The rows that are handed over: their numbers, their values. -/
def ownVs (n : Nat) : Nat → List PM → List Value → List (Nat × Value)
  | i, .own _ _ :: ps, v :: vs => (n + i, v) :: ownVs n (i + 1) ps vs
  | i, _ :: ps, _ :: vs => ownVs n (i + 1) ps vs
  | _, _, _ => []
/-- The functions that are handed over. -/
def fvOf (w : World) : List PM → List Value → List Value
  | .fn _ :: ps, v :: vs => v :: fvOf w ps vs
  | .rdf _ :: ps, .pointer (some ad) :: vs => (w.cell? ad).getD undef :: fvOf w ps vs
  | .rdf _ :: ps, _ :: vs => undef :: fvOf w ps vs
  | _ :: ps, _ :: vs => fvOf w ps vs
  | _, _ => []
theorem pin_ge : ∀ {ps : List PM} {i id : Nat}, id ∈ pinIds n i ps → n + i ≤ id := by
  intro ps
  induction ps with
  | nil => intro i id h; cases h
  | cons p ps ih =>
    intro i id h
    cases p with
    | ptr ty =>
      rcases List.mem_cons.1 h with rfl | h
      · exact Nat.le_refl _
      · have := ih h; omega
    | _ => have := ih (i := i + 1) h; omega
theorem pin_nodup : ∀ {ps : List PM} {i : Nat}, (pinIds n i ps).Nodup := by
  intro ps
  induction ps with
  | nil => intro i; exact List.nodup_nil
  | cons p ps ih =>
    intro i
    cases p with
    | ptr ty => exact List.nodup_cons.2 ⟨fun h => by have := pin_ge h; omega, ih⟩
    | _ => exact ih
theorem own_ge : ∀ {ps : List PM} {vs : List Value} {i : Nat} {q : Nat × Value}, q ∈ ownVs n i ps vs → n + i ≤ q.1 := by
  intro ps
  induction ps with
  | nil => intro vs i q h; cases vs <;> cases h
  | cons p ps ih =>
    intro vs i q h
    cases vs with
    | nil => cases p <;> cases h
    | cons v vs =>
      cases p with
      | own e t =>
        rcases List.mem_cons.1 h with rfl | h
        · exact Nat.le_refl _
        · have := ih h; omega
      | _ => have := ih (i := i + 1) h; omega
theorem own_uniq : ∀ {ps : List PM} {vs : List Value} {i : Nat} {q r : Nat × Value}, q ∈ ownVs n i ps vs → r ∈ ownVs n i ps vs → q.1 = r.1 → q = r := by
  intro ps
  induction ps with
  | nil => intro vs i q r h; cases vs <;> cases h
  | cons p ps ih =>
    intro vs i q r h h2 e
    cases vs with
    | nil => cases p <;> cases h
    | cons v vs =>
      cases p with
      | own e' t =>
        rcases List.mem_cons.1 h with rfl | h
        · rcases List.mem_cons.1 h2 with rfl | h2
          · rfl
          · have := own_ge h2; simp only at e; omega
        · rcases List.mem_cons.1 h2 with rfl | h2
          · have := own_ge h; simp only at e; omega
          · exact ih h h2 e
      | _ => exact ih (i := i + 1) h h2 e
theorem datC_rel {ok : Nat → Prop} (h : ∀ b, ok b → okL g.lab b) {xs : List TV} {vs : List Value} (hc : CellIn w ok xs vs) : CRs w g s (datC xs) vs := cellIn_rel h hc
theorem args_len {A ok : Nat → Prop} : ∀ {ps : List PM} {i : Nat} {ins : List (List TV)} {vs : List Value} {bs ms : List Nat} {Rs : List Rel}, ArgsIn P w A ok ps ins vs bs ms Rs → vs.length = ps.length ∧ (pinIds n i ps).length = bs.length ∧ (ownVs n i ps vs).flatMap (fun q => q.2.ownBlock.toList) = ms := by
  intro ps
  induction ps with
  | nil =>
    intro i ins vs bs ms Rs h
    cases ins <;> cases vs <;> first | exact h.elim | skip
    obtain ⟨rfl, rfl, rfl⟩ := h
    exact ⟨rfl, rfl, rfl⟩
  | cons p ps ih =>
    intro i ins vs bs ms Rs h
    cases vs with
    | nil => cases p <;> cases ins <;> exact h.elim
    | cons v vs =>
    cases p with
    | val agg =>
      cases ins with
      | nil => exact h.elim
      | cons xs ins =>
        obtain ⟨h1, h2, h3⟩ := ih (i := i + 1) h.2
        exact ⟨by simp [h1], h2, h3⟩
    | rd t =>
      cases ins with
      | nil => exact h.elim
      | cons xs ins =>
        obtain ⟨h1, h2, h3⟩ := ih (i := i + 1) h.2
        exact ⟨by simp [h1], h2, h3⟩
    | fn sg =>
      have h' : ∃ R Rs', Rs = R :: Rs' ∧ FnOk P w A v sg R ∧ ArgsIn P w A ok ps ins vs bs ms Rs' := by cases ins <;> exact h
      obtain ⟨R, Rs', _, _, h'⟩ := h'
      obtain ⟨h1, h2, h3⟩ := ih (i := i + 1) h'
      exact ⟨by simp [h1], h2, h3⟩
    | rdf sg =>
      have h' : ∃ R Rs', Rs = R :: Rs' ∧ (∃ ad fv, v = .pointer (some ad) ∧ ok ad.block ∧ w.cell? ad = some fv ∧ FnOk P w A fv sg R) ∧ ArgsIn P w A ok ps ins vs bs ms Rs' := by cases ins <;> exact h
      obtain ⟨R, Rs', _, _, h'⟩ := h'
      obtain ⟨h1, h2, h3⟩ := ih (i := i + 1) h'
      exact ⟨by simp [h1], h2, h3⟩
    | ptr ty =>
      cases ins with
      | nil => exact h.elim
      | cons xs ins =>
        obtain ⟨b, bs', rfl, _, _, h'⟩ := h
        obtain ⟨h1, h2, h3⟩ := ih (i := i + 1) h'
        exact ⟨by simp [h1], by show (pinIds n (i + 1) ps).length + 1 = _; rw [h2]; rfl, h3⟩
    | own e t =>
      cases ins with
      | nil => exact h.elim
      | cons xs ins =>
        obtain ⟨ms', rfl, _, h'⟩ := h
        obtain ⟨h1, h2, h3⟩ := ih (i := i + 1) h'
        refine ⟨by simp [h1], h2, ?_⟩
        show ((n + i, v) :: ownVs n (i + 1) ps vs).flatMap _ = _
        rw [List.flatMap_cons, h3]
theorem args_fs {A ok : Nat → Prop} : ∀ {ps : List PM} {ins : List (List TV)} {vs : List Value} {bs ms : List Nat} {Rs : List Rel}, ArgsIn P w A ok ps ins vs bs ms Rs → ∀ (j : Nat) (q : Sig × Rel), (fsOf ps Rs)[j]? = some q → FnOk P w A ((fvOf w ps vs).getD j undef) q.1 q.2 := by
  intro ps
  induction ps with
  | nil => intro ins vs bs ms Rs h j q hq; cases Rs <;> simp [fsOf] at hq
  | cons p ps ih =>
    intro ins vs bs ms Rs h j q hq
    cases vs with
    | nil => cases p <;> cases ins <;> exact h.elim
    | cons v vs =>
    cases p with
    | val agg =>
      cases ins with
      | nil => exact h.elim
      | cons xs ins => exact ih h.2 j q hq
    | rd t =>
      cases ins with
      | nil => exact h.elim
      | cons xs ins => exact ih h.2 j q hq
    | ptr ty =>
      cases ins with
      | nil => exact h.elim
      | cons xs ins =>
        obtain ⟨b, bs', rfl, _, _, h'⟩ := h
        exact ih h' j q hq
    | own e t =>
      cases ins with
      | nil => exact h.elim
      | cons xs ins =>
        obtain ⟨ms', rfl, _, h'⟩ := h
        exact ih h' j q hq
    | fn sg =>
      have h' : ∃ R Rs', Rs = R :: Rs' ∧ FnOk P w A v sg R ∧ ArgsIn P w A ok ps ins vs bs ms Rs' := by cases ins <;> exact h
      obtain ⟨R, Rs', rfl, h1, h'⟩ := h'
      cases j with
      | zero =>
        have e : (sg, R) = q := by simpa [fsOf] using hq
        subst e
        exact h1
      | succ j => exact ih h' j q (by simpa [fsOf] using hq)
    | rdf sg =>
      have h' : ∃ R Rs', Rs = R :: Rs' ∧ (∃ ad fv, v = .pointer (some ad) ∧ ok ad.block ∧ w.cell? ad = some fv ∧ FnOk P w A fv sg R) ∧ ArgsIn P w A ok ps ins vs bs ms Rs' := by cases ins <;> exact h
      obtain ⟨R, Rs', rfl, ⟨ad, fv, rfl, _, h2, h1⟩, h'⟩ := h'
      cases j with
      | zero =>
        have e : (sg, R) = q := by simpa [fsOf] using hq
        subst e
        show FnOk P w A ((w.cell? ad).getD undef) _ _
        rw [h2]
        exact h1
      | succ j => exact ih h' j q (by simpa [fsOf] using hq)
theorem lenTV_of {ok : Nat → Prop} {x : TV} {cs : List Value} (h : CK w ok x.t x.x cs) : LenTV x := by
  obtain ⟨t, x⟩ := x
  cases t with
  | row e t => obtain ⟨A, c, _, hl, _⟩ := h; exact hl.2
  | _ => trivial
theorem lenIn {ok : Nat → Prop} : ∀ {xs : List TV} {vs : List Value}, CellIn w ok xs vs → ∀ x ∈ xs, LenTV x
  | [], [], _, x, hx => by cases hx
  | y :: xs, v :: vs, h, x, hx => by
    rcases List.mem_cons.1 hx with rfl | hx
    · exact lenTV_of h.1.2
    · exact lenIn h.2 x hx
theorem lenOk_cons {xs : List TV} {ins : List (List TV)} (h1 : ∀ x ∈ xs, LenTV x) (h2 : LenOk ins) : LenOk (xs :: ins) := fun ys hy x hx => by
  rcases List.mem_cons.1 hy with rfl | hy
  · exact h1 x hx
  · exact h2 ys hy x hx
theorem args_lenok {A ok : Nat → Prop} : ∀ {ps : List PM} {ins : List (List TV)} {vs : List Value} {bs ms : List Nat} {Rs : List Rel}, ArgsIn P w A ok ps ins vs bs ms Rs → LenOk ins := by
  intro ps
  induction ps with
  | nil => intro ins vs bs ms Rs h; cases ins with
    | nil => exact fun xs h => by cases h
    | cons _ _ => cases vs <;> exact h.elim
  | cons p ps ih =>
    intro ins vs bs ms Rs h
    cases vs with
    | nil => cases p <;> cases ins <;> exact h.elim
    | cons v vs =>
    cases p with
    | val agg =>
      cases ins with
      | nil => exact h.elim
      | cons xs ins =>
        refine lenOk_cons ?_ (ih h.2)
        have hv := h.1
        cases agg with
        | true => obtain ⟨arr, e, hc⟩ := hv; exact lenIn hc
        | false => exact lenIn (vs := [v]) hv
    | rd t =>
      cases ins with
      | nil => exact h.elim
      | cons xs ins =>
        refine lenOk_cons ?_ (ih h.2)
        obtain ⟨x, ad, es, rfl, _, _, h1, _⟩ := h.1
        intro y hy
        rw [List.mem_singleton.1 hy]
        exact lenTV_of h1
    | ptr ty =>
      cases ins with
      | nil => exact h.elim
      | cons xs ins =>
        obtain ⟨b, bs', rfl, _, ⟨arr, _, hc⟩, h'⟩ := h
        exact lenOk_cons (lenIn hc) (ih h')
    | own e t =>
      cases ins with
      | nil => exact h.elim
      | cons xs ins =>
        obtain ⟨ms', rfl, ⟨_, ys, cs, rfl, ho, _⟩, h'⟩ := h
        refine lenOk_cons ?_ (ih h')
        intro y hy
        rw [List.mem_singleton.1 hy]
        rcases ho.2 with ⟨_, hn⟩ | ⟨b, cap, cur, _, _, _, hc, hm, _⟩
        · show ys.length ≤ _
          omega
        · show ys.length ≤ _
          unfold maxLen at hm
          omega
    | fn sg =>
      have h' : ∃ R Rs', Rs = R :: Rs' ∧ FnOk P w A v sg R ∧ ArgsIn P w A ok ps ins vs bs ms Rs' := by cases ins <;> exact h
      obtain ⟨R, Rs', rfl, h1, h'⟩ := h'
      exact ih h'
    | rdf sg =>
      have h' : ∃ R Rs', Rs = R :: Rs' ∧ (∃ ad fv, v = .pointer (some ad) ∧ ok ad.block ∧ w.cell? ad = some fv ∧ FnOk P w A fv sg R) ∧ ArgsIn P w A ok ps ins vs bs ms Rs' := by cases ins <;> exact h
      obtain ⟨R, Rs', rfl, _, h'⟩ := h'
      exact ih h'
theorem FnOk.one {A : Nat → Prop} {v : Value} {sg : Sig} {R : Rel} (h : FnOk P w A v sg R) : v.oneCell' = true := by
  obtain ⟨f, first, caps, rfl, _⟩ := h
  rfl
theorem args_tm {A ok : Nat → Prop} (hok : ∀ b, ok b → okL g.lab b) : ∀ {ps : List PM} {i j : Nat} {ins : List (List TV)} {vs : List Value} {bs ms : List Nat} {Rs : List Rel}, ArgsIn P w A ok ps ins vs bs ms Rs → (∀ p ∈ (pinIds n i ps).zip bs, s.bx p.1 ≠ none ∧ g.bb p.1 = p.2) →
    (∀ q ∈ ownVs n i ps vs, s.rw q.1 ≠ none ∧ g.rv q.1 0 = q.2) → (∀ k f, (fvOf w ps vs)[k]? = some f → g.fv (j + k) = f) → ∀ t av, (t, av) ∈ initT n i j ps ins → ∃ v, i ≤ t ∧ vs[t - i]? = some v ∧ VR w g s av v := by
  intro ps
  induction ps with
  | nil => intro i j ins vs bs ms Rs h hp hr hf t av hm; cases ins <;> cases hm
  | cons p ps ih =>
    intro i j ins vs bs ms Rs h hp hr hf t av hm
    cases vs with
    | nil => cases p <;> cases ins <;> exact h.elim
    | cons v vs =>
    have later : ∀ {t : Nat} {av : AV}, (∃ u, i + 1 ≤ t ∧ vs[t - (i + 1)]? = some u ∧ VR w g s av u) → ∃ u, i ≤ t ∧ (v :: vs)[t - i]? = some u ∧ VR w g s av u := fun {t av} ⟨u, k1, k2, k3⟩ => by
      refine ⟨u, by omega, ?_, k3⟩
      rw [show t - i = (t - (i + 1)) + 1 by omega, List.getElem?_cons_succ]
      exact k2
    have now : ∀ {av : AV}, VR w g s av v → ∃ u, i ≤ i ∧ (v :: vs)[i - i]? = some u ∧ VR w g s av u := fun {av} k => ⟨v, Nat.le_refl _, by rw [Nat.sub_self]; rfl, k⟩
    cases p with
    | val agg =>
      cases ins with
      | nil => exact h.elim
      | cons xs ins =>
      rcases List.mem_cons.1 hm with e | hm
      · cases e
        refine now ?_
        have hv := h.1
        cases agg with
        | true => obtain ⟨arr, e, hc⟩ := hv; exact ⟨arr, e, datC_rel hok hc⟩
        | false => exact datC_rel hok (vs := [v]) hv
      · exact later (ih h.2 hp hr hf t av hm)
    | rd ty =>
      cases ins with
      | nil => exact h.elim
      | cons xs ins =>
      rcases List.mem_cons.1 hm with e | hm
      · cases e
        refine now ?_
        obtain ⟨x, ad, es, rfl, rfl, h1, h2, h3⟩ := h.1
        exact sv1_ok rfl ⟨ad, es, rfl, hok _ h1, h2.frame (fun _ _ => rfl) hok, h3⟩
      · exact later (ih h.2 hp hr hf t av hm)
    | ptr ty =>
      cases ins with
      | nil => exact h.elim
      | cons xs ins =>
      obtain ⟨b, bs', rfl, rfl, _, h'⟩ := h
      have hp0 := hp (n + i, b) List.mem_cons_self
      rcases List.mem_cons.1 hm with e | hm
      · cases e
        exact now (sv1_ok rfl ⟨hp0.1, by rw [hp0.2]⟩)
      · exact later (ih h' (fun p hq => hp p (List.mem_cons_of_mem _ hq)) hr hf t av hm)
    | own e ty =>
      cases ins with
      | nil => exact h.elim
      | cons xs ins =>
      obtain ⟨ms', rfl, ⟨h1, _⟩, h'⟩ := h
      have hr0 := hr (n + i, v) List.mem_cons_self
      rcases List.mem_cons.1 hm with e | hm
      · cases e
        exact now (sv1_ok h1 ⟨hr0.1, Nat.zero_le _, hr0.2.symm⟩)
      · exact later (ih h' hp (fun q hq => hr q (List.mem_cons_of_mem _ hq)) hf t av hm)
    | fn sg =>
      have h' : ∃ R Rs', Rs = R :: Rs' ∧ FnOk P w A v sg R ∧ ArgsIn P w A ok ps ins vs bs ms Rs' := by cases ins <;> exact h
      obtain ⟨R, Rs', rfl, h1, h'⟩ := h'
      have hm' : (t, av) ∈ (i, sv1 (.fnp j)) :: initT n (i + 1) (j + 1) ps ins := by cases ins <;> exact hm
      rcases List.mem_cons.1 hm' with e | hm
      · cases e
        exact now (sv1_ok h1.one (hf 0 v rfl).symm)
      · refine later (ih h' hp hr (fun k f hk => ?_) t av hm)
        rw [show j + 1 + k = j + (k + 1) by omega]
        exact hf (k + 1) f (by simpa [fvOf] using hk)
    | rdf sg =>
      have h' : ∃ R Rs', Rs = R :: Rs' ∧ (∃ ad fv, v = .pointer (some ad) ∧ ok ad.block ∧ w.cell? ad = some fv ∧ FnOk P w A fv sg R) ∧ ArgsIn P w A ok ps ins vs bs ms Rs' := by cases ins <;> exact h
      obtain ⟨R, Rs', rfl, ⟨ad, fv, rfl, h1, h2, h3⟩, h'⟩ := h'
      have hm' : (t, av) ∈ (i, sv1 (.locf j)) :: initT n (i + 1) (j + 1) ps ins := by cases ins <;> exact hm
      rcases List.mem_cons.1 hm' with e | hm
      · cases e
        have hfv : g.fv j = fv := hf 0 fv (by show some ((w.cell? ad).getD undef) = _; rw [h2]; rfl)
        exact now (sv1_ok rfl ⟨ad, rfl, hok _ h1, by rw [hfv]; exact h3.one, by rw [hfv]; exact h2⟩)
      · refine later (ih h' hp hr (fun k f hk => ?_) t av hm)
        rw [show j + 1 + k = j + (k + 1) by omega]
        exact hf (k + 1) f (by simpa [fvOf] using hk)
theorem args_bx {A ok : Nat → Prop} : ∀ {ps : List PM} {i : Nat} {ins : List (List TV)} {vs : List Value} {bs ms : List Nat} {Rs : List Rel}, ArgsIn P w A ok ps ins vs bs ms Rs →
    (∀ id b, (id, b) ∈ initB n i ps ins → ∃ p ∈ (pinIds n i ps).zip bs, p.1 = id ∧ ∃ xs arr, b.cs = datC xs ∧ w.heap[p.2]? = some (.cells arr b.ty (0, 0)) ∧ CellIn w ok xs arr.toList) ∧ (∀ p ∈ (pinIds n i ps).zip bs, ∃ b, (p.1, b) ∈ initB n i ps ins) ∧
    (∀ id r, (id, r) ∈ initR n i ps ins → ∃ v, (id, v) ∈ ownVs n i ps vs ∧ r.gen = 0 ∧ ∃ cs, w.ownsRow 0 r.e r.t.sz v r.xs.length cs ∧ CKs w ok r.t r.xs cs) ∧ (∀ q ∈ ownVs n i ps vs, ∃ r, (q.1, r) ∈ initR n i ps ins) := by
  intro ps
  induction ps with
  | nil => intro i ins vs bs ms Rs h; exact ⟨fun id b h => (by cases ins <;> cases h), fun p hp => (by cases hp), fun id r h => (by cases ins <;> cases h), fun q hq => (by cases vs <;> cases hq)⟩
  | cons p ps ih =>
    intro i ins vs bs ms Rs h
    cases vs with
    | nil => cases p <;> cases ins <;> exact h.elim
    | cons v vs =>
    cases p with
    | val agg =>
      cases ins with
      | nil => exact h.elim
      | cons xs ins => exact ih (i := i + 1) h.2
    | rd ty =>
      cases ins with
      | nil => exact h.elim
      | cons xs ins => exact ih (i := i + 1) h.2
    | fn sg =>
      have h' : ∃ R Rs', Rs = R :: Rs' ∧ FnOk P w A v sg R ∧ ArgsIn P w A ok ps ins vs bs ms Rs' := by cases ins <;> exact h
      obtain ⟨R, Rs', rfl, h1, h'⟩ := h'
      have := ih (i := i + 1) h'
      cases ins <;> exact this
    | rdf sg =>
      have h' : ∃ R Rs', Rs = R :: Rs' ∧ (∃ ad fv, v = .pointer (some ad) ∧ ok ad.block ∧ w.cell? ad = some fv ∧ FnOk P w A fv sg R) ∧ ArgsIn P w A ok ps ins vs bs ms Rs' := by cases ins <;> exact h
      obtain ⟨R, Rs', rfl, _, h'⟩ := h'
      have := ih (i := i + 1) h'
      cases ins <;> exact this
    | ptr ty =>
      cases ins with
      | nil => exact h.elim
      | cons xs ins =>
      obtain ⟨b, bs', rfl, rfl, ⟨arr, k1, k2⟩, h'⟩ := h
      obtain ⟨h1, h2, h3, h4⟩ := ih (i := i + 1) h'
      refine ⟨fun id bb hm => ?_, fun p hp => ?_, h3, h4⟩
      · rcases List.mem_cons.1 hm with e | hm
        · cases e
          exact ⟨(n + i, b), List.mem_cons_self, rfl, xs, arr, rfl, k1, k2⟩
        · obtain ⟨p, hp, k⟩ := h1 id bb hm
          exact ⟨p, List.mem_cons_of_mem _ hp, k⟩
      · rcases List.mem_cons.1 hp with rfl | hp
        · exact ⟨_, List.mem_cons_self⟩
        · obtain ⟨bb, hb⟩ := h2 p hp
          exact ⟨bb, List.mem_cons_of_mem _ hb⟩
    | own e ty =>
      cases ins with
      | nil => exact h.elim
      | cons xs ins =>
      obtain ⟨ms', rfl, ⟨k0, ys, cs, rfl, k1, k2⟩, h'⟩ := h
      obtain ⟨h1, h2, h3, h4⟩ := ih (i := i + 1) h'
      refine ⟨h1, h2, fun id r hm => ?_, fun q hq => ?_⟩
      · rcases List.mem_cons.1 hm with e | hm
        · cases e
          exact ⟨v, List.mem_cons_self, rfl, cs, k1, k2⟩
        · obtain ⟨u, hu, k⟩ := h3 id r hm
          exact ⟨u, List.mem_cons_of_mem _ hu, k⟩
      · rcases List.mem_cons.1 hq with rfl | hq
        · exact ⟨_, List.mem_cons_self⟩
        · obtain ⟨r, hr⟩ := h4 q hq
          exact ⟨r, List.mem_cons_of_mem _ hr⟩
theorem VarsOut.mono {ok ok2 : Nat → Prop} {O : Option Nat} {G : Nat → Prop} (h : ∀ b, ok b → ok2 b) : ∀ {ps : List PM} {ns : List (List TV)} {vs : List Value} {bs : List Nat}, VarsOut w ok O G ps ns vs bs → VarsOut w ok2 O G ps ns vs bs
  | [], _, _, _, hh => hh
  | .val _ :: ps, _, _ :: _, _, hh => VarsOut.mono (ps := ps) h hh
  | .rd _ :: ps, _, _ :: _, _, hh => VarsOut.mono (ps := ps) h hh
  | .fn _ :: ps, _, _ :: _, _, hh => VarsOut.mono (ps := ps) h hh
  | .rdf _ :: ps, _, _ :: _, _, hh => VarsOut.mono (ps := ps) h hh
  | .own _ _ :: ps, _ :: _, _ :: _, _, hh => ⟨hh.1.imp id fun ⟨⟨k1, ys, cs, k2, k3, k4⟩, k5⟩ => ⟨⟨k1, ys, cs, k2, k3, k4.frame (fun _ _ => rfl) h⟩, k5⟩, VarsOut.mono (ps := ps) h hh.2⟩
  | .ptr _ :: _, _ :: _, _ :: _, _ :: _, hh => by
    obtain ⟨⟨arr, h1, h2⟩, h3⟩ := hh
    exact ⟨⟨arr, h1, h2.mono h⟩, VarsOut.mono h h3⟩
  | .val _ :: _, _, [], _, hh => hh.elim
  | .rd _ :: _, _, [], _, hh => hh.elim
  | .fn _ :: _, _, [], _, hh => hh.elim
  | .rdf _ :: _, _, [], _, hh => hh.elim
  | .own _ _ :: _, [], _, _, hh => by cases hh
  | .own _ _ :: _, _ :: _, [], _, hh => hh.elim
  | .ptr _ :: _, [], _, _, hh => by cases hh
  | .ptr _ :: _, _ :: _, [], _, hh => hh.elim
  | .ptr _ :: _, _ :: _, _ :: _, [], hh => hh.elim
end
end Go.Ab
/- What is told of a function's code holds of its calls. No conditions. -/
namespace Go.Ab
open Go
variable {P : Program} {T : Tab} {C : CTab} {N : Specs} {n : Nat}
open Classical in
theorem fn_ok (hT : T.Good P) (hm : P.follows .mixedOrders = true) {C : FuncId → Option Con} (hC : ∀ f c, C f = some c → c.f = f ∧ c.Ok P ∧ Callable P f) {c : Con} {fn : Func} {body : Code} {ts : List ResultVar} (hf : P.funcs[c.f]? = some fn) (hb : fn.body = some body) (hr : fn.results = ts.toArray) (hn : fn.ntmps = n)
    (hps : c.ps.length ≤ n) (hpin : N.pins = pinIds n 0 c.ps) (hone : cntV c.rs ≤ 1) (h : fnE T C n N body ts c) : c.Ok P := by
  intro w ok vs ins bs ms Rs out hargs hnd hbok hok hF
  refine calls_of_wp hf hb ?_
  rw [hn]
  -- the numbers of the variables that are handed over, with their blocks
  let pins := (pinIds n 0 c.ps).zip bs
  let own := ownVs n 0 c.ps vs
  obtain ⟨hx1, hx2, hx3, hx4⟩ := args_bx (n := n) (i := 0) hargs
  obtain ⟨hvl, hbl, hml⟩ := args_len (n := n) (i := 0) hargs
  obtain ⟨hnd1, hnd2, hnd3⟩ := List.nodup_append.1 hnd
  have hpmem : ∀ p ∈ pins, p.2 ∈ bs := fun p hp => (List.of_mem_zip hp).2
  have hpuniq1 : ∀ p ∈ pins, ∀ q ∈ pins, p.1 = q.1 → p = q := fun p hp q hq e => by
    obtain ⟨i, hi, ei⟩ := List.getElem_of_mem hp
    obtain ⟨j, hj, ej⟩ := List.getElem_of_mem hq
    have e1 : (pinIds n 0 c.ps)[i]'(by simp only [pins, List.length_zip] at hi; omega) = p.1 := by rw [← ei]; simp [pins]
    have e2 : (pinIds n 0 c.ps)[j]'(by simp only [pins, List.length_zip] at hj; omega) = q.1 := by rw [← ej]; simp [pins]
    have : i = j := (List.getElem_inj (pin_nodup (n := n) (ps := c.ps) (i := 0))).1 (by rw [e1, e2, e])
    subst this
    rw [← ei, ← ej]
  have hpuniq2 : ∀ p ∈ pins, ∀ q ∈ pins, p.2 = q.2 → p = q := fun p hp q hq e => by
    obtain ⟨i, hi, ei⟩ := List.getElem_of_mem hp
    obtain ⟨j, hj, ej⟩ := List.getElem_of_mem hq
    have e1 : bs[i]'(by simp only [pins, List.length_zip] at hi; omega) = p.2 := by rw [← ei]; simp [pins]
    have e2 : bs[j]'(by simp only [pins, List.length_zip] at hj; omega) = q.2 := by rw [← ej]; simp [pins]
    have : i = j := (List.getElem_inj hnd1).1 (by rw [e1, e2, e])
    subst this
    rw [← ei, ← ej]
  -- the rows that are handed over
  have hmem : ∀ q ∈ own, ∀ b, q.2.ownBlock = some b → b ∈ ms := fun q hq b hb => by
    rw [← hml]
    exact List.mem_flatMap.2 ⟨q, hq, by rw [hb]; simp⟩
  have hmem' : ∀ b ∈ ms, ∃ q ∈ own, q.2.ownBlock = some b := fun b hb => by
    rw [← hml] at hb
    obtain ⟨q, hq, h⟩ := List.mem_flatMap.1 hb
    exact ⟨q, hq, by simpa using h⟩
  have houniq : ∀ q ∈ own, ∀ r ∈ own, q.1 = r.1 → q = r := fun q hq r hr e => own_uniq hq hr e
  have hobuniq : ∀ q ∈ own, ∀ r ∈ own, ∀ b, q.2.ownBlock = some b → r.2.ownBlock = some b → q = r := by
    rw [← hml] at hnd2
    have key : ∀ {l : List (Nat × Value)}, (l.flatMap fun q => q.2.ownBlock.toList).Nodup → ∀ q ∈ l, ∀ r ∈ l, ∀ b, q.2.ownBlock = some b → r.2.ownBlock = some b → q = r := by
      intro l
      induction l with
      | nil => intro _ q hq; cases hq
      | cons x l ih =>
        intro hn q hq r hr b e1 e2
        rw [List.flatMap_cons] at hn
        obtain ⟨_, n2, n3⟩ := List.nodup_append.1 hn
        rcases List.mem_cons.1 hq with h1 | h1
        · rcases List.mem_cons.1 hr with h2 | h2
          · rw [h1, h2]
          · exact absurd rfl (n3 b (by rw [← h1, e1]; simp) b (List.mem_flatMap.2 ⟨r, h2, by rw [e2]; simp⟩))
        · rcases List.mem_cons.1 hr with h2 | h2
          · exact absurd rfl (n3 b (by rw [← h2, e2]; simp) b (List.mem_flatMap.2 ⟨q, h1, by rw [e1]; simp⟩))
          · exact ih n2 q h1 r h2 b e1 e2
    exact key hnd2
  let g0 : Gh := ⟨fun b => if w.heap.size ≤ b then .free else if hq : ∃ p ∈ pins, p.2 = b then .box (Classical.choose hq).1 else if hq : ∃ q ∈ own, q.2.ownBlock = some b then .row (Classical.choose hq).1 else if ok b then .old else .hid,
    fun id _ => if hq : ∃ q ∈ own, q.1 = id then (Classical.choose hq).2 else undef, fun _ => 0, fun id => if hq : ∃ p ∈ pins, p.1 = id then (Classical.choose hq).2 else 0, fun _ => 0, fun j => (fvOf w c.ps vs).getD j undef⟩
  let s0 : St := mkSt (initT n 0 0 c.ps ins) (initB n 0 c.ps ins) (initR n 0 c.ps ins) []
  let M : Mv := ⟨fun b => b ∈ bs ++ ms, pins, ok, fun j => (fvOf w c.ps vs).getD j undef, P⟩
  have hbb : ∀ p ∈ pins, g0.bb p.1 = p.2 := fun p hp => by
    have hq : ∃ q ∈ pins, q.1 = p.1 := ⟨p, hp, rfl⟩
    show (if hq : ∃ q ∈ pins, q.1 = p.1 then (Classical.choose hq).2 else 0) = p.2
    rw [dif_pos hq]
    obtain ⟨k1, k2⟩ := Classical.choose_spec hq
    rw [hpuniq1 _ k1 p hp k2]
  have hrv : ∀ q ∈ own, ∀ k, g0.rv q.1 k = q.2 := fun q hq k => by
    have hq' : ∃ r ∈ own, r.1 = q.1 := ⟨q, hq, rfl⟩
    show (if hq : ∃ r ∈ own, r.1 = q.1 then (Classical.choose hq).2 else undef) = q.2
    rw [dif_pos hq']
    obtain ⟨k1, k2⟩ := Classical.choose_spec hq'
    rw [houniq _ k1 q hq k2]
  have hbin : ∀ p ∈ pins, p.2 < w.heap.size := fun p hp => by
    obtain ⟨b, hb⟩ := hx2 p hp
    obtain ⟨q, hq, e, xs, arr, _, k2, _⟩ := hx1 p.1 b hb
    have := hpuniq1 q hq p hp e
    subst this
    exact (Array.getElem?_eq_some_iff.1 k2).1
  have hmin : ∀ q ∈ own, ∀ b, q.2.ownBlock = some b → b < w.heap.size := fun q hq b hb => by
    obtain ⟨r, hr⟩ := hx4 q hq
    obtain ⟨v, hv, _, cs, k1, _⟩ := hx3 q.1 r hr
    have hvq : q.2 = v := by rw [← houniq _ hv q hq rfl]
    rcases k1.2 with ⟨e, _⟩ | ⟨b', cap, cur, e, _, e3, _⟩
    · rw [hvq, show v = _ from e] at hb; cases hb
    · rw [hvq, show v = _ from e] at hb
      have e' : b' = b := by simpa [Value.ownBlock] using hb
      subst e'
      exact (Array.getElem?_eq_some_iff.1 e3).1
  have hlab : ∀ p ∈ pins, g0.lab p.2 = .box p.1 := fun p hp => by
    have hq : ∃ q ∈ pins, q.2 = p.2 := ⟨p, hp, rfl⟩
    show (if w.heap.size ≤ p.2 then Lab.free else if hq : ∃ q ∈ pins, q.2 = p.2 then .box (Classical.choose hq).1 else if hq : ∃ q ∈ own, q.2.ownBlock = some p.2 then .row (Classical.choose hq).1 else if ok p.2 then .old else .hid) = _
    rw [if_neg (by have := hbin p hp; omega), dif_pos hq]
    obtain ⟨k1, k2⟩ := Classical.choose_spec hq
    rw [hpuniq2 _ k1 p hp k2]
  have hlabr : ∀ q ∈ own, ∀ b, q.2.ownBlock = some b → g0.lab b = .row q.1 := fun q hq b hb => by
    have hnb : ¬ ∃ p ∈ pins, p.2 = b := fun ⟨p, hp, e⟩ => hnd3 b (by rw [← e]; exact hpmem p hp) b (hmem q hq b hb) rfl
    have hq' : ∃ r ∈ own, r.2.ownBlock = some b := ⟨q, hq, hb⟩
    show (if w.heap.size ≤ b then Lab.free else if hq : ∃ q ∈ pins, q.2 = b then .box (Classical.choose hq).1 else if hq : ∃ q ∈ own, q.2.ownBlock = some b then .row (Classical.choose hq).1 else if ok b then .old else .hid) = _
    rw [if_neg (by have := hmin q hq b hb; omega), dif_neg hnb, dif_pos hq']
    obtain ⟨k1, k2⟩ := Classical.choose_spec hq'
    rw [hobuniq _ k1 q hq b k2 hb]
  have hlabn : ∀ b, b < w.heap.size → b ∉ bs ++ ms → g0.lab b = if ok b then .old else .hid := fun b hb hnb => by
    show (if w.heap.size ≤ b then Lab.free else if hq : ∃ q ∈ pins, q.2 = b then .box (Classical.choose hq).1 else if hq : ∃ q ∈ own, q.2.ownBlock = some b then .row (Classical.choose hq).1 else if ok b then .old else .hid) = _
    rw [if_neg (by omega), dif_neg, dif_neg]
    · rintro ⟨q, hq, e⟩
      exact hnb (List.mem_append_right _ (hmem q hq b e))
    · rintro ⟨p, hp, rfl⟩
      exact hnb (List.mem_append_left _ (hpmem p hp))
  have hokL : ∀ b, ok b → okL g0.lab b := fun b hb => by
    have hnb : b ∉ bs ++ ms := fun h => hbok b h hb
    exact .inl (by rw [hlabn b (hok b hb) hnb, if_pos hb])
  have hpinOk : ∀ p ∈ pins, s0.bx p.1 ≠ none ∧ g0.bb p.1 = p.2 := fun p hp => by
    obtain ⟨b, hb⟩ := hx2 p hp
    exact ⟨lk_some ⟨b, hb⟩, hbb p hp⟩
  have hownOk : ∀ q ∈ own, s0.rw q.1 ≠ none ∧ g0.rv q.1 0 = q.2 := fun q hq => by
    obtain ⟨r, hr⟩ := hx4 q hq
    exact ⟨lk_some ⟨r, hr⟩, hrv q hq 0⟩
  have htm := args_tm (n := n) (i := 0) (j := 0) (g := g0) (s := s0) hokL hargs hpinOk hownOk (fun k f hk => by
    show (fvOf w c.ps vs).getD (0 + k) undef = f
    rw [Nat.zero_add, List.getD_eq_getElem?_getD, hk]; rfl)
  have hsize : (vs.toArray ++ Array.replicate (n - vs.toArray.size) undef).size = n := by
    simp only [Array.size_append, Array.size_replicate, List.size_toArray]; omega
  have hbsin : ∀ b ∈ bs, ∃ p ∈ pins, p.2 = b := fun b hb => by
    obtain ⟨j, hj, e⟩ := List.getElem_of_mem hb
    refine ⟨((pinIds n 0 c.ps)[j]'(by omega), bs[j]), ?_, e⟩
    have : pins[j]'(by simp only [pins, List.length_zip]; omega) = ((pinIds n 0 c.ps)[j]'(by omega), bs[j]) := by simp [pins]
    rw [← this]
    exact List.getElem_mem _
  have hsim : Sim w M n s0 { tmps := vs.toArray ++ Array.replicate (n - vs.toArray.size) undef, defers := [] } w g0 := {
    sz := hsize
    df := rfl
    tm := fun t => by
      by_cases hu : s0.tm t = .un
      · rw [hu]; trivial
      · obtain ⟨v, _, h2, h3⟩ := htm t (s0.tm t) (lk_mem (l := initT n 0 0 c.ps ins) rfl hu)
        have hlt := (List.getElem?_eq_some_iff.1 h2).1
        rw [Nat.sub_zero] at h2 hlt
        have : (vs.toArray ++ Array.replicate (n - vs.toArray.size) undef).getD t undef = v := by
          rw [Array.getD_eq_getD_getElem?, Array.getElem?_append_left (by simpa using hlt)]
          simp [h2]
        show VR w g0 s0 (s0.tm t) ((vs.toArray ++ Array.replicate (n - vs.toArray.size) undef).getD t undef)
        rw [this]
        exact h3
    fr := fun b hb => if_pos hb
    old := fun b hb => ⟨by
      rcases Nat.lt_or_ge b w.heap.size with h' | h'
      · exact h'
      · rw [show g0.lab b = .free from if_pos h'] at hb; simp at hb, rfl⟩
    low := fun b hb => by
      by_cases hm : b ∈ bs ++ ms
      · exact .inr hm
      · left
        rw [hlabn b hb hm]
        split
        · exact .inl rfl
        · exact .inr rfl
    okb := fun b hb => by
      have hlt : b < w.heap.size := by
        rcases Nat.lt_or_ge b w.heap.size with h' | h'
        · exact h'
        · rw [show g0.lab b = .free from if_pos h'] at hb; cases hb
      by_cases hm : b ∈ bs ++ ms
      · rcases List.mem_append.1 hm with hm | hm
        · obtain ⟨p, hp, rfl⟩ := hbsin b hm
          rw [hlab p hp] at hb
          cases hb
        · obtain ⟨q, hq, e⟩ := hmem' b hm
          rw [hlabr q hq b e] at hb
          cases hb
      · rw [hlabn b hlt hm] at hb
        split at hb
        · assumption
        · cases hb
    pin := hpinOk
    hs := Nat.le_refl _
    os := rfl
    tape := rfl
    output := rfl
    bx := fun id b hb => by
      have hb' : lk none ((initB n 0 c.ps ins).map fun p => (p.1, some p.2)) id = some b := hb
      have := lk_mem hb' (by simp)
      obtain ⟨q, h1, h2⟩ := List.mem_map.1 this
      simp only [Prod.mk.injEq, Option.some.injEq] at h2
      obtain ⟨rfl, rfl⟩ := h2
      obtain ⟨p, hp, e, xs, arr, k1, k2, k3⟩ := hx1 q.1 q.2 h1
      rw [← e]
      exact ⟨by rw [hbb p hp]; exact hlab p hp, arr, by rw [hbb p hp]; exact k2, by rw [k1]; exact datC_rel hokL k3⟩
    rw := fun id r hr => by
      have hr' : lk none ((initR n 0 c.ps ins).map fun p => (p.1, some p.2)) id = some r := hr
      have := lk_mem hr' (by simp)
      obtain ⟨q, h1, h2⟩ := List.mem_map.1 this
      simp only [Prod.mk.injEq, Option.some.injEq] at h2
      obtain ⟨rfl, rfl⟩ := h2
      obtain ⟨v, hv, k0, cs, k1, k2⟩ := hx3 q.1 q.2 h1
      have hrvq : g0.rv q.1 q.2.gen = v := hrv (q.1, v) hv _
      exact ⟨k0, fun b hb => by rw [hrvq] at hb; exact hlabr (q.1, v) hv b hb, cs, by rw [hrvq]; exact k1, k2.frame (fun _ _ => rfl) hokL⟩
    mp := fun id c hc => by cases hc
    fv := rfl }
  have hC' : CTab.Ok P ⟨C, fsOf c.ps Rs⟩ w M := ⟨hC, fun j q hq => args_fs hargs j q hq, rfl⟩
  refine codeE_ok hT hm hC' (M := M) (n := n) (N := N) (fun p hp => by rw [hpin]; exact (List.of_mem_zip hp).1) body (fun e s' a' w' g' hk hs' => ?_) hsim (h Rs ins out (args_lenok hargs) hF)
  have fin : retE T n c ts out s' → a'.defers = [] ∧ ∃ v, (results fn a'.tmps).run P w' = .ok v w' ∧ (∃ u O G, Ending.returned v = .returned u ∧ (∀ b, G b → b ∈ ms) ∧ Post w w' bs ms O ∧ VarsOut w' (okOut w w' ok O G) O G c.ps out.2 vs bs ∧ ResOut w' (okOut w w' ok O G) O c.rs out.1 u) := by
    intro hret
    unfold retE at hret
    obtain ⟨_, _, hret, _, _⟩ := resE_ok hT hs' hret
    obtain ⟨s1, g1, hs1, hret⟩ := frzAll_ok _ hs' hret
    obtain ⟨avs, us, ⟨hv, hB⟩, hall, hruns⟩ := resE_ok hT hs1 hret
    obtain ⟨O, hO, hvals⟩ := matchV_rel hs1 hall hv hone
    have hvals := hvals O (.inr rfl)
    have hvars := matchB_rel (O := O) (G := fun b => b ∈ ms) hs1 hB hvl (bs := bs) (fun p hp => (hs1.pin p hp).2) hbl
    have hpl : ∀ b ∈ bs, ∃ id, g1.lab b = .box id := fun b hb => by
      obtain ⟨p, hp, rfl⟩ := hbsin b hb
      obtain ⟨k1, k2⟩ := hs1.pin p hp
      obtain ⟨bb, hbb⟩ := Option.ne_none_iff_exists'.1 k1
      exact ⟨p.1, by rw [← k2]; exact (hs1.bx p.1 bb hbb).lab⟩
    have hlow : ∀ b, b < w.heap.size → (g1.lab b = .old ∨ g1.lab b = .hid) ∨ (∃ id, g1.lab b = .box id) ∨ b ∈ ms := fun b hb => by
      rcases hs1.low b hb with k | k
      · exact .inl k
      · rcases List.mem_append.1 k with k | k
        · exact .inr (.inl (hpl b k))
        · exact .inr (.inr k)
    have hmono : ∀ b, okL g1.lab b → okOut w w' ok O (fun b => b ∈ ms) b := fun b hb => by
      rcases hb with hb | hb
      · exact .inl (hs1.okb b hb)
      · refine .inr ⟨?_, hs1.lt (by rw [hb]; simp), fun e => ?_⟩
        · rcases Nat.lt_or_ge b w.heap.size with h' | h'
          · rcases hlow b h' with (k | k) | ⟨id, k⟩ | k
            · rw [hb] at k; cases k
            · rw [hb] at k; cases k
            · rw [hb] at k; cases k
            · exact .inr k
          · exact .inl h'
        · obtain ⟨id, k⟩ := hO b e.symm
          rw [hb] at k; cases k
    refine ⟨hs1.df, _, run_results hr hruns, _, O, fun b => b ∈ ms, rfl, (fun _ h => h), ⟨hs1.os, hs1.tape, hs1.output, hs1.hs, fun b hb hnb hnm => ?_, fun b hb => ?_⟩, hvars.mono hmono, ?_⟩
    · rcases hs1.low b hb with k | k
      · exact (hs1.old b k).2
      · rcases List.mem_append.1 k with k | k
        · exact absurd k hnb
        · exact absurd k hnm
    · obtain ⟨id, k⟩ := hO b hb
      refine ⟨?_, hs1.lt (by rw [k]; simp)⟩
      rcases Nat.lt_or_ge b w.heap.size with h' | h'
      · rcases hlow b h' with (k2 | k2) | ⟨id2, k2⟩ | k2
        · rw [k] at k2; cases k2
        · rw [k] at k2; cases k2
        · rw [k] at k2; cases k2
        · exact .inr k2
      · exact .inl h'
    · have hvals := ValsOut.mono hmono hvals
      have hlen : ∀ {rs : List (Bool × List Bool)} {outs : List (List TV)} {us : List Value}, ValsOut w' (okOut w w' ok O (fun b => b ∈ ms)) O rs outs us → us.length = rs.length ∧ outs.length = rs.length := by
        intro rs
        induction rs with
        | nil =>
          intro outs us hh
          cases outs with
          | nil => cases us with
            | nil => exact ⟨rfl, rfl⟩
            | cons _ _ => cases hh
          | cons _ _ => cases us <;> cases hh
        | cons m rs ih =>
          intro outs us hh
          cases outs with
          | nil => cases us <;> cases hh
          | cons xs outs =>
            cases us with
            | nil => cases hh
            | cons u us =>
              obtain ⟨k1, k2⟩ := ih hh.2
              exact ⟨by rw [List.length_cons, List.length_cons, k1], by rw [List.length_cons, List.length_cons, k2]⟩
      obtain ⟨l1, l2⟩ := hlen hvals
      unfold ResOut
      split
      · rename_i m hm
        rw [hm] at hvals l1 l2
        obtain ⟨u, hu⟩ := List.length_eq_one_iff.1 l1
        obtain ⟨xs, hxs⟩ := List.length_eq_one_iff.1 l2
        rw [hxs] at hvals
        refine ⟨xs, hxs, ?_⟩
        subst hu
        exact hvals.1
      · rename_i hne
        refine ⟨us.toArray, ?_, by simpa using hvals⟩
        rcases us with _ | ⟨v, _ | ⟨v2, us⟩⟩
        · rfl
        · obtain ⟨m, hm⟩ := List.length_eq_one_iff.1 l1.symm
          exact absurd hm (hne m)
        · rfl
  cases e with
  | nor => exact fin hk
  | ret => exact fin hk
  | exit id => exact hk.elim
end Go.Ab
/- The rules by which an evaluation is compared with a function's own text. No conditions. -/
namespace Go.Ab
open Go
theorem brB_i {x : Bool} {A B : Prop} (hA : x = true → A) (hB : ¬ (x = true) → B) : brB x A B := by
  cases x
  · exact hB (by simp)
  · exact hA rfl
theorem gd_i {c : Prop} {i : Decidable c} {α : Type} {t : Option α} {r : α} (h : @ite _ c i t none = some r) : c ∧ t = some r := by
  by_cases hc : c
  · rw [if_pos hc] at h; exact ⟨hc, h⟩
  · rw [if_neg hc] at h; cases h
theorem bi_i {α β : Type} {o : Option α} {f : α → Option β} {r : β} (h : o.bind f = some r) : ∃ t, o = some t ∧ f t = some r := Option.bind_eq_some_iff.1 h
theorem bi2_i {α α' β : Type} {o : Option (α × α')} {f : α × α' → Option β} {r : β} (h : o.bind f = some r) : ∃ a b, o = some (a, b) ∧ f (a, b) = some r := by
  obtain ⟨⟨a, b⟩, h1, h2⟩ := Option.bind_eq_some_iff.1 h
  exact ⟨a, b, h1, h2⟩
theorem bi3_i {α α' α'' β : Type} {o : Option (α × α' × α'')} {f : α × α' × α'' → Option β} {r : β} (h : o.bind f = some r) : ∃ a b c, o = some (a, b, c) ∧ f (a, b, c) = some r := by
  obtain ⟨⟨a, b, c⟩, h1, h2⟩ := Option.bind_eq_some_iff.1 h
  exact ⟨a, b, c, h1, h2⟩
theorem call_i {α : Type} {p q : α → Prop} {x : α} (h1 : p x) (h2 : q x) : ∃ x, p x ∧ q x := ⟨x, h1, h2⟩
theorem loop_i {id : Nat} {A : (St → Prop) → Prop} {B : (St → Prop) → St → Prop} (Q : Nat → Nat → St → Prop) (b : Nat) (ha : A (fun s => ∃ k, k < b ∧ Q id k s))
    (hb : ∀ k s, k < b → Q id k s → B (fun s' => ∃ k', k' < k ∧ k' < b ∧ Q id k' s') s) : LoopE id A B :=
  .mk (fun k s => k < b ∧ Q id k s) (fun k s h => hb k s h.1 h.2) ha
theorem join_i {id : Nat} {A : (St → Prop) → Prop} {B : St → Prop} (Q : Nat → Nat → St → Prop) (b : Nat) (ha : A (fun s => ∃ k, k < b ∧ Q id k s)) (hb : ∀ k s, k < b → Q id k s → B s) : JoinE id A B :=
  .mk (fun s => ∃ k, k < b ∧ Q id k s) (fun s h => h.elim fun k h => hb k s h.1 h.2) ha
theorem so_r {α β : Type} {y : α} {f : α → Option β} {r : β} {G : Prop} (g : f y = some r → G) (h : (some y).bind f = some r) : G := g h
theorem toList_mk (l : List UInt8) : ByteArray.toList ⟨l.toArray⟩ = l := by rw [ByteArray.toList_eq]
/-- A string made of bytes. -/
class LitB (b : ByteArray) (l : outParam (List UInt8)) : Prop where
  out : b = ⟨l.toArray⟩
instance (l : List UInt8) : LitB ⟨l.toArray⟩ l := ⟨rfl⟩
theorem valb_eq {a b : ByteArray} {l : List UInt8} [i : LitB b l] {K : Bool → Prop} (h : K (a.toList == l)) : ValB (a.toList == b.toList) K := .mk _ (by rw [i.out, toList_mk l]) h
theorem valb_ne {a b : ByteArray} {l : List UInt8} [i : LitB b l] {K : Bool → Prop} (h : K (a.toList != l)) : ValB (a.toList != b.toList) K := .mk _ (by rw [i.out, toList_mk l]) h
theorem valb_any {x : Bool} {K : Bool → Prop} (h : K x) : ValB x K := .mk _ rfl h
/-- What is seen of a number without any hypothesis. -/
class Rng (e : Int) (lo hi : outParam Int) : Prop where
  out : lo ≤ e ∧ e ≤ hi
class Low (e : Int) : Prop where
  out : 0 ≤ e
instance (n : Nat) : Rng (no_index (OfNat.ofNat n)) (OfNat.ofNat n) (OfNat.ofNat n) := ⟨Int.le_refl _, Int.le_refl _⟩
instance {a l h : Int} [r : Rng a l h] : Rng (-a) (-h) (-l) := ⟨by have := r.out; omega⟩
instance {a b l h l' h' : Int} [r : Rng a l h] [r' : Rng b l' h'] : Rng (a + b) (l + l') (h + h') := ⟨by have := r.out; have := r'.out; omega⟩
instance {a b l h l' h' : Int} [r : Rng a l h] [r' : Rng b l' h'] : Rng (a - b) (l - h') (h - l') := ⟨by have := r.out; have := r'.out; omega⟩
instance (a : Int) (n : Nat) [h : NeZero n] : Rng (a % (no_index (OfNat.ofNat n))) 0 (OfNat.ofNat n - 1) := ⟨by
  have h0 : (OfNat.ofNat n : Int) = (n : Int) := rfl
  have := h.ne
  have h1 : (0 : Int) < n := by omega
  rw [h0]
  have h2 := Int.emod_nonneg a (show (n : Int) ≠ 0 by omega)
  have h3 := Int.emod_lt_of_pos a h1
  omega⟩
instance (n : Nat) : Low (n : Int) := ⟨Int.natCast_nonneg n⟩
instance (n : Nat) : Low (no_index (OfNat.ofNat n) : Int) := ⟨Int.natCast_nonneg n⟩
instance (a : Int) (n : Nat) [NeZero n] : Low (a % (no_index (OfNat.ofNat n))) := ⟨(inferInstance : Rng (a % (OfNat.ofNat n : Int)) 0 (OfNat.ofNat n - 1)).out.1⟩
theorem val_id {e l h : Int} [r : Rng e l h] {K : Int → Prop} (h1 : decide (-9223372036854775808 ≤ l ∧ h ≤ 9223372036854775807) = true) (hk : K e) : Val (wrapK .i64 e) K := .mk e (by
  have := r.out
  have := of_decide_eq_true h1
  show RowKit.wrap64 e = e
  unfold RowKit.wrap64
  omega) hk
theorem val_idu {e l h : Int} [r : Rng e l h] {K : Int → Prop} (h1 : decide (0 ≤ l ∧ h ≤ 18446744073709551615) = true) (hk : K e) : Val (wrapK .u64 e) K := .mk e (by
  have := r.out
  have := of_decide_eq_true h1
  show (e % 18446744073709551616) = e
  omega) hk
theorem val_add0 {k : IntKind} {a : Int} {K : Int → Prop} (h : Val (wrapK k a) K) : Val (wrapK k (a + 0)) K := by rw [Int.add_zero]; exact h
theorem val_tmod {a b : Int} [r : Low a] {K : Int → Prop} (h : K (a % b)) : Val (a.tmod b) K := .mk _ (Int.tmod_eq_emod_of_nonneg r.out) h
theorem val_tdiv {a b : Int} [r : Low a] {K : Int → Prop} (h : K (a / b)) : Val (a.tdiv b) K := .mk _ (Int.tdiv_eq_ediv_of_nonneg r.out) h
theorem val_neg {k : IntKind} {a : Int} {K : Int → Prop} (h : Val (wrapK k (-a)) K) : Val (wrapK k (0 - a)) K := by rw [Int.zero_sub]; exact h
theorem val_mod {e : Int} {K : Int → Prop} (h : K (e % 256)) : Val (wrapK .u8 e) K := .mk _ rfl h
theorem val_mod32 {e : Int} {K : Int → Prop} (h : K (e % 4294967296)) : Val (wrapK .u32 e) K := .mk _ rfl h
class P2 (n : Nat) (m : outParam Int) where
  out : (2 : Int) ^ n = m
instance : P2 0 1 := ⟨by decide⟩
instance : P2 1 2 := ⟨by decide⟩
instance : P2 2 4 := ⟨by decide⟩
instance : P2 3 8 := ⟨by decide⟩
instance : P2 4 16 := ⟨by decide⟩
instance : P2 5 32 := ⟨by decide⟩
instance : P2 6 64 := ⟨by decide⟩
instance : P2 7 128 := ⟨by decide⟩
instance : P2 8 256 := ⟨by decide⟩
instance : P2 9 512 := ⟨by decide⟩
instance : P2 10 1024 := ⟨by decide⟩
instance : P2 11 2048 := ⟨by decide⟩
instance : P2 12 4096 := ⟨by decide⟩
instance : P2 13 8192 := ⟨by decide⟩
instance : P2 14 16384 := ⟨by decide⟩
instance : P2 15 32768 := ⟨by decide⟩
instance : P2 16 65536 := ⟨by decide⟩
instance : P2 17 131072 := ⟨by decide⟩
instance : P2 18 262144 := ⟨by decide⟩
instance : P2 19 524288 := ⟨by decide⟩
instance : P2 20 1048576 := ⟨by decide⟩
instance : P2 21 2097152 := ⟨by decide⟩
instance : P2 22 4194304 := ⟨by decide⟩
instance : P2 23 8388608 := ⟨by decide⟩
instance : P2 24 16777216 := ⟨by decide⟩
instance : P2 25 33554432 := ⟨by decide⟩
instance : P2 26 67108864 := ⟨by decide⟩
instance : P2 27 134217728 := ⟨by decide⟩
instance : P2 28 268435456 := ⟨by decide⟩
instance : P2 29 536870912 := ⟨by decide⟩
instance : P2 30 1073741824 := ⟨by decide⟩
instance : P2 31 2147483648 := ⟨by decide⟩
instance : P2 32 4294967296 := ⟨by decide⟩
instance : P2 33 8589934592 := ⟨by decide⟩
instance : P2 34 17179869184 := ⟨by decide⟩
instance : P2 35 34359738368 := ⟨by decide⟩
instance : P2 36 68719476736 := ⟨by decide⟩
instance : P2 37 137438953472 := ⟨by decide⟩
instance : P2 38 274877906944 := ⟨by decide⟩
instance : P2 39 549755813888 := ⟨by decide⟩
instance : P2 40 1099511627776 := ⟨by decide⟩
instance : P2 41 2199023255552 := ⟨by decide⟩
instance : P2 42 4398046511104 := ⟨by decide⟩
instance : P2 43 8796093022208 := ⟨by decide⟩
instance : P2 44 17592186044416 := ⟨by decide⟩
instance : P2 45 35184372088832 := ⟨by decide⟩
instance : P2 46 70368744177664 := ⟨by decide⟩
instance : P2 47 140737488355328 := ⟨by decide⟩
instance : P2 48 281474976710656 := ⟨by decide⟩
instance : P2 49 562949953421312 := ⟨by decide⟩
instance : P2 50 1125899906842624 := ⟨by decide⟩
instance : P2 51 2251799813685248 := ⟨by decide⟩
instance : P2 52 4503599627370496 := ⟨by decide⟩
instance : P2 53 9007199254740992 := ⟨by decide⟩
instance : P2 54 18014398509481984 := ⟨by decide⟩
instance : P2 55 36028797018963968 := ⟨by decide⟩
instance : P2 56 72057594037927936 := ⟨by decide⟩
instance : P2 57 144115188075855872 := ⟨by decide⟩
instance : P2 58 288230376151711744 := ⟨by decide⟩
instance : P2 59 576460752303423488 := ⟨by decide⟩
instance : P2 60 1152921504606846976 := ⟨by decide⟩
instance : P2 61 2305843009213693952 := ⟨by decide⟩
instance : P2 62 4611686018427387904 := ⟨by decide⟩
instance : P2 63 9223372036854775808 := ⟨by decide⟩
theorem val_shr {k : IntKind} {a m : Int} {n : Nat} [h : P2 n m] {K : Int → Prop} (hb : Nat.ble n k.bits = true) (hk : K (a / m)) : Val (shr k a (no_index (OfNat.ofNat n))) K := .mk _ (by
  have e : min (Int.toNat (OfNat.ofNat n)) k.bits = n := Nat.min_eq_left (Nat.le_of_ble_eq_true hb)
  unfold shr
  rw [e, h.out]) hk
theorem val_shl {k : IntKind} {a m : Int} {n : Nat} [h : P2 n m] {K : Int → Prop} (hb : Nat.ble n k.bits = true) (hk : Val (wrapK k (a * m)) K) : Val (shl k a (no_index (OfNat.ofNat n))) K := by
  have e : min (Int.toNat (OfNat.ofNat n)) k.bits = n := Nat.min_eq_left (Nat.le_of_ble_eq_true hb)
  have e2 : shl k a (OfNat.ofNat n) = wrapK k (a * m) := by unfold shl; rw [e, h.out, wrapK_eq]
  rw [e2]
  exact hk
theorem val_any {x : Int} {K : Int → Prop} (h : K x) : Val x K := .mk _ rfl h
theorem gn_r {c : Prop} {i : Decidable c} {α : Type} {t : Option α} {r : α} {G : Prop} (g : ¬ c → t = some r → G) (h : @ite _ c i none t = some r) : G := by
  by_cases hc : c
  · rw [if_pos hc] at h; cases h
  · rw [if_neg hc] at h; exact g hc h
theorem ip_r {c : Prop} {i : Decidable c} {α : Type} {t t' : Option α} {r : α} {G : Prop} (hc : c) (g : t = some r → G) (h : @ite _ c i t t' = some r) : G := g (by rw [if_pos hc] at h; exact h)
theorem in_r {c : Prop} {i : Decidable c} {α : Type} {t t' : Option α} {r : α} {G : Prop} (hc : ¬ c) (g : t' = some r → G) (h : @ite _ c i t t' = some r) : G := g (by rw [if_neg hc] at h; exact h)
theorem gd_r {c : Prop} {i : Decidable c} {α : Type} {t : Option α} {r : α} {G : Prop} (g : c → t = some r → G) (h : @ite _ c i t none = some r) : G := g (gd_i h).1 (gd_i h).2
theorem bi_r {α β : Type} {o : Option α} {f : α → Option β} {r : β} {G : Prop} (g : ∀ t, o = some t → f t = some r → G) (h : o.bind f = some r) : G := (bi_i h).elim fun t h => g t h.1 h.2
theorem bi_e {α β : Type} {o : Option α} {y : α} {f : α → Option β} {r : β} {G : Prop} (e : o = some y) (g : f y = some r → G) (h : o.bind f = some r) : G := g (by rw [e] at h; exact h)
theorem bi2_r {α α' β : Type} {o : Option (α × α')} {f : α × α' → Option β} {r : β} {G : Prop} (g : ∀ a b, o = some (a, b) → f (a, b) = some r → G) (h : o.bind f = some r) : G := (bi_i h).elim fun t h => g t.1 t.2 h.1 h.2
theorem bi3_r {α α' α'' β : Type} {o : Option (α × α' × α'')} {f : α × α' × α'' → Option β} {r : β} {G : Prop} (g : ∀ a b c, o = some (a, b, c) → f (a, b, c) = some r → G) (h : o.bind f = some r) : G := (bi_i h).elim fun t h => g t.1 t.2.1 t.2.2 h.1 h.2
theorem callf_i {q : Sig × Rel} {ins : List (List TV)} {B : List (List TV) × List (List TV) → Prop} {o : List (List TV)} (h1 : q.2 ins o) (h2 : B (o, [])) : ∃ out, (conOf q).F [] ins out ∧ B out := ⟨(o, []), ⟨h1, rfl⟩, h2⟩
theorem rel_i {A B : Rel → Prop} (R' : Rel) (h2 : B R') (h1 : A R') : ∃ R', A R' ∧ B R' := ⟨R', h1, h2⟩
structure GoodCon (P : Program) (c : Con) : Prop where
  ok : c.Ok P
  fn : Callable P c.f
def ofS : List (Nat × Spec) → Nat → Option Spec
  | [], _ => none
  | p :: l, i => bif Nat.beq p.1 i then some p.2 else ofS l i
def ofL : List Con → FuncId → Option Con
  | [], _ => none
  | c :: l, f => bif Nat.beq c.f f then some c else ofL l f
theorem GoodCon.less {P : Program} {f : FuncId} {ps : List PM} {rs : List (Bool × List Bool)} {shr : Bool} {F F' : List Rel → List (List TV) → List (List TV) × List (List TV) → Prop} (h : GoodCon P ⟨f, ps, rs, shr, F⟩) (hF : ∀ Rs ins out, LenOk ins → F' Rs ins out → F Rs ins out) : GoodCon P ⟨f, ps, rs, shr, F'⟩ :=
  ⟨fun w ok vs ins bs ms Rs out h1 h2 h3 h4 h5 => h.ok w ok vs ins bs ms Rs out h1 h2 h3 h4 (hF _ _ _ (args_lenok h1) h5), h.fn⟩
inductive GoodAll (P : Program) : List Con → Prop
  | nil : GoodAll P []
  | cons {c : Con} {l : List Con} (h : GoodCon P c) (t : GoodAll P l) : GoodAll P (c :: l)
theorem ofL_ok {P : Program} : ∀ {l : List Con}, GoodAll P l → ∀ f c, ofL l f = some c → c.f = f ∧ c.Ok P ∧ Callable P f
  | [], _ => fun f c h => by cases h
  | c :: l, h => fun f c' h' => by
    cases h with
    | cons h t =>
      unfold ofL at h'
      cases hb : Nat.beq c.f f with
      | true =>
        rw [hb] at h'
        cases h'
        have e := Nat.eq_of_beq_eq_true hb
        exact ⟨e, h.ok, e ▸ h.fn⟩
      | false =>
        rw [hb] at h'
        exact ofL_ok t f c' h'
theorem fo {P : Program} {T : Tab} {C : FuncId → Option Con} {N : Specs} {c : Con} {ts : List ResultVar} {fn : Func} {body : Code} {n : Nat} (hT : T.Good P) (hm : P.follows .mixedOrders = true) (hC : ∀ f c, C f = some c → c.f = f ∧ c.Ok P ∧ Callable P f) (hf : P.funcs[c.f]? = some fn) (hb : fn.body = some body) (hr : fn.results = ts.toArray) (hn : fn.ntmps = n)
    (hnm : (fn.name == "runtime.NumGoroutine") = false) (hps : c.ps.length ≤ n) (hpin : N.pins = pinIds n 0 c.ps) (hone : cntV c.rs ≤ 1) (h : fnE T C n N body ts c) : GoodCon P c :=
  ⟨fn_ok hT hm hC hf hb hr hn hps hpin hone h, fn, hf, hnm, by rw [hb]; rfl⟩
theorem go {p : Prop} (h : p := by
  repeat
    (repeat (first
      | (revert h; (with_reducible refine gd_r ?_); intro c h)
      | (revert h; (with_reducible refine gn_r ?_); intro c h)
      | (revert h; (with_reducible refine so_r ?_); intro h)
      | (revert h; (with_reducible refine bi_e (by with_reducible assumption) ?_); intro h)
      | (revert h; (with_reducible refine bi_r ?_); intro t e h)))
    conv => whnf
    first
      | ((with_reducible refine Need.mk ?_ ?_); (first | with_reducible assumption | assumption | exact Nat.le_of_lt (by assumption) | omega | decide | (simp only [List.length_append, List.length_take, List.length_replicate, List.length_set]; omega)))
      | (with_reducible refine valb_eq ?_)
      | (with_reducible refine valb_ne ?_)
      | (with_reducible refine valb_any ?_)
      | (with_reducible refine val_neg ?_)
      | (with_reducible refine val_add0 ?_)
      | ((with_reducible refine val_idu ?_ ?_); decide)
      | (with_reducible refine val_tmod ?_)
      | (with_reducible refine val_tdiv ?_)
      | ((with_reducible refine val_id ?_ ?_); decide)
      | ((with_reducible refine val_shr ?_ ?_); (exact rfl))
      | ((with_reducible refine val_shl ?_ ?_); (exact rfl))
      | (with_reducible refine val_mod ?_)
      | (with_reducible refine val_mod32 ?_)
      | (with_reducible refine val_any ?_)
      | ((with_reducible refine loop_i Q (k + 1) ?_ (fun k s hk hq => ?_))
         rotate_left
         (cases hq; rename_i h; rcases k with _ | k; (cases h); (first | rw [u0] at h | rw [u1] at h | rw [u2] at h | rw [u3] at h | rw [u4] at h | rw [u5] at h)))
      | ((with_reducible refine join_i Q (k + 1) ?_ (fun k s hk hq => ?_))
         rotate_left
         (cases hq; rename_i h; rcases k with _ | k; (cases h); (first | rw [u0] at h | rw [u1] at h | rw [u2] at h | rw [u3] at h | rw [u4] at h | rw [u5] at h)))
      | ((with_reducible refine ⟨k, ?_, ?_⟩); omega; (first | ((with_reducible refine ⟨?_, ?_⟩); omega) | skip); constructor; exact h)
      | ((with_reducible apply callf_i); (constructor; assumption))
      | ((with_reducible apply call_i); (constructor; assumption))
      | ((with_reducible apply rel_i); (conv => whnf); (with_reducible apply call_i); (constructor; assumption); rotate_left; (intro ins out hr; (first | exact hr | (cases hr; (refine ⟨rfl, ?_⟩); (constructor; assumption)))))
      | ((with_reducible refine brB_i (fun c => ?_) (fun c => ?_)) <;>
          (try simp only [decide_eq_true_eq, beq_iff_eq, bne_iff_ne, ne_eq, Bool.not_eq_true', Bool.not_eq_false', Decidable.not_not, Bool.false_eq_true, not_true_eq_false, not_false_eq_true] at c) <;>
          (try first | (with_reducible contradiction) | (revert h; refine ip_r c ?_; intro h) | (revert h; refine in_r c ?_; intro h) | (revert h; refine in_r (ne_true_of_eq_false c) ?_; intro h) | (revert h; refine ip_r (eq_true_of_ne_false c) ?_; intro h) | (revert h; refine ip_r (bne_iff_ne.2 c) ?_; intro h) | (revert h; refine in_r (fun e => bne_iff_ne.1 e c) ?_; intro h) | (revert h; refine ip_r (beq_iff_eq.2 c) ?_; intro h) | (revert h; refine in_r (fun e => c (beq_iff_eq.1 e)) ?_; intro h)))
      | (with_reducible refine Both.mk ?_ ?_)
      | (focus (have h := Option.some.inj h; subst h; (repeat' (first | (with_reducible exact True.intro) | apply And.intro | exact True.intro | exact rfl)); done))
      | exact True.intro
      | (with_reducible refine And.intro ?_ ?_)) : p := h
end Go.Ab
