/- Plain: the digits of PlainCode: both sides alike. No conditions. -/
import Derived.Test.YtknonolfgpknjaaX1
import Derived.Test.YtknonolfgpknjaaX2
import Derived.Test.YtknonolfgpknjaaX4
import Derived.Test.YtknonolfgpknjaaNumbs
import Derived.Test.YtknonolfgpknjaaStableMap
set_option linter.unusedVariables false
set_option linter.unusedSimpArgs false
namespace Go.Proofs.Ytknonolfgpknjaa.Pl
open Go.RowKit Go.Proofs.YtknonolfgpknjaaW.PrintWords Go.Proofs.YtknonolfgpknjaaW.PrintLast Go.Proofs.YtknonolfgpknjaaW.PrintMore Go.Proofs.Ytknonolfgpknjaa.X
theorem and_one (n : Int) : Go.bits .and .i64 n 1 = n % 2 := by
  have h1 : (BitVec.ofInt 64 1).toNat = 2 ^ 1 - 1 := by decide
  have key : (BitVec.ofInt 64 n &&& BitVec.ofInt 64 1).toNat = (n % ((2 ^ 64 : Nat) : Int)).toNat % 2 ^ 1 := by
    rw [BitVec.toNat_and, BitVec.toNat_ofInt, h1, Nat.and_two_pow_sub_one_eq_mod]
  show IntKind.i64.wrap ((BitVec.ofInt 64 n &&& BitVec.ofInt 64 1).toNat : Nat) = n % 2
  rw [key, IntKind.wrap_i64]
  omega
theorem shr_nat (x : Int) (m : Nat) (hm : m ≤ 64) : shr .i64 x (m : Int) = x / 2 ^ m := by
  unfold shr
  rw [Int.toNat_natCast, Nat.min_eq_left (show m ≤ IntKind.i64.bits from hm)]
/-- The sign of a bit. -/
def sgn (x : Int) (m : Nat) : Int := 48 + x / 2 ^ m % 2
/-- The signs of the bits from place m - 1 down, so many. -/
def sgns (x : Int) : Nat → Nat → List Int
  | _, 0 => []
  | m, n + 1 => sgn x (m - 1) :: sgns x (m - 1) n
theorem sgns_snoc (x : Int) : ∀ (n m : Nat), n < m → sgns x m (n + 1) = sgns x m n ++ [sgn x (m - 1 - n)]
  | 0, m, _ => rfl
  | n + 1, m, h => by
    rw [sgns, sgns_snoc x n (m - 1) (by omega), sgns, List.cons_append, show m - 1 - (n + 1) = m - 1 - 1 - n by omega]
theorem sgn_range (x : Int) (m : Nat) : 48 ≤ sgn x m ∧ sgn x m ≤ 49 := by unfold sgn; omega
theorem sgns_range (x : Int) : ∀ (n m : Nat), ∀ y ∈ sgns x m n, 0 ≤ y ∧ y ≤ 255
  | 0, _, y, h => by cases h
  | n + 1, m, y, h => by
    rcases List.mem_cons.1 h with h | h
    · have := sgn_range x (m - 1); omega
    · exact sgns_range x n (m - 1) y h
theorem one_sign (b : Int) (h0 : 0 ≤ b) (h1 : b ≤ 1) : (⟨#[48, 49]⟩ : ByteArray).extract b.toNat (b + 1).toNat = strOfNums [48 + b] := by
  rcases (by omega : b = 0 ∨ b = 1) with rfl | rfl <;> decide
theorem div_two (x : Int) (m : Nat) : x / 2 ^ m / 2 = x / 2 ^ (m + 1) := by
  rw [Int.ediv_ediv_of_nonneg (Int.pow_nonneg (by omega)), Int.pow_succ]
theorem pc_append (s t : ByteArray) : bytesOf (s ++ t) = bytesOf s ++ bytesOf t := by
  unfold bytesOf
  rw [← List.map_append]
  simp
theorem pc_str {xs : List Int} (h : ∀ x ∈ xs, 0 ≤ x ∧ x ≤ 255) : bytesOf (strOfNums xs) = xs := by
  unfold strOfNums bytesOf
  simp only [List.map_map]
  rw [List.map_congr_left (g := id) (fun x hx => ?_), List.map_id]
  have := h x hx
  simp only [Function.comp_def, id]
  rw [show (UInt8.ofNat x.toNat).toNat = x.toNat % 256 from by simp]
  omega
theorem str_app {a b : List Int} (ha : ∀ x ∈ a, 0 ≤ x ∧ x ≤ 255) (hb : ∀ x ∈ b, 0 ≤ x ∧ x ≤ 255) : strOfNums (a ++ b) = strOfNums a ++ strOfNums b := by
  refine bytes_inj ?_
  rw [pc_append, pc_str ha, pc_str hb, pc_str (fun x hx => (List.mem_append.1 hx).elim (ha x) (hb x))]
theorem str_size (a : List Int) : (strOfNums a).size = a.length := by simp [strOfNums, ByteArray.size]
theorem sgns_length (x : Int) : ∀ (n m : Nat), (sgns x m n).length = n
  | 0, _ => rfl
  | n + 1, m => by rw [sgns, List.length_cons, sgns_length x n]
theorem digits_ev (x : Int) (len : Nat) (h0 : 0 ≤ x) (h1 : x ≤ 1000000000) (hl : len ≤ 14) : Ev (fun k => spec_l10Digits.f k (x / 2 ^ (14 - len)) (len : Int)) (strOfNums (sgns x 14 len)) := by
  unfold spec_l10Digits.f
  have key := ev_down (R := fun _ => strOfNums (sgns x 14 len)) (g := fun k i => spec_l10Digits.l0 k (x / 2 ^ (14 - len + i)) (len : Int) (strOfNums (sgns x (14 - len + i) i)) (i : Nat)) len
    (Ev.step (fun k => by simp only [spec_l10Digits.l0]; rfl) (ev_neg (by omega) (ev_eq (by rw [show 14 - len + len = 14 by omega]))))
    (fun i hi ih => by
      have hb : ∀ z : Int, 0 ≤ z % 2 ∧ z % 2 ≤ 1 := fun z => by omega
      obtain ⟨b, hbd⟩ : ∃ b, b = x / 2 ^ (14 - len + i) % 2 := ⟨_, rfl⟩
      obtain ⟨b0, b1⟩ := hb (x / 2 ^ (14 - len + i))
      rw [← hbd] at b0 b1
      have hx0 : 0 ≤ x / 2 ^ (14 - len + i) := Int.ediv_nonneg h0 (Int.pow_nonneg (by omega))
      have hx1 : x / 2 ^ (14 - len + i) ≤ x := Int.ediv_le_self _ h0
      have hw : wrap64 (b + 1) = b + 1 := w64 (by omega) (by omega)
      have ht : wrap64 (Int.tdiv (x / 2 ^ (14 - len + i)) 2) = x / 2 ^ (14 - len + i + 1) := by
        rw [Int.tdiv_eq_ediv_of_nonneg hx0, div_two, w64]
        · have : 0 ≤ x / 2 ^ (14 - len + i + 1) := Int.ediv_nonneg h0 (Int.pow_nonneg (by omega)); omega
        · have : x / 2 ^ (14 - len + i + 1) ≤ x := Int.ediv_le_self _ h0; omega
      refine Ev.step (fun k => by simp only [spec_l10Digits.l0]; rfl) (ev_pos (by omega) ?_)
      simp only [and_one, ← hbd, hw, ht, inc (show i ≤ 9223372036854775806 by omega), one_sign b b0 b1]
      refine ev_pos b0 (ev_pos (by omega) (ev_pos (by omega) (ev_pos (by rw [str_size, str_size, sgns_length]; simp; omega) ?_)))
      rw [← str_app (fun y hy => by rw [List.mem_singleton.1 hy]; omega) (fun y hy => sgns_range x _ _ y hy)]
      rw [show 14 - len + (i + 1) = 14 - len + i + 1 by omega] at ih
      have e : [48 + b] ++ sgns x (14 - len + i) i = sgns x (14 - len + i + 1) (i + 1) := by
        rw [sgns, Nat.add_sub_cancel, sgn, ← hbd]; rfl
      rw [e]
      exact ih)
  have := key 0 (Nat.zero_le _)
  rw [Nat.add_zero] at this
  exact this
theorem l2_ev {l : List Int} {out : List ByteArray} {x : Int} {i len : Nat} {order : List Int} {x42 x43 : Int} {R : List ByteArray × Bool} (hi : i < l.length) (ho : i < out.length) (he : out.getD i ByteArray.empty = (⟨#[]⟩ : ByteArray)) (hlen : l.getD i 0 = (len : Int)) (hl : len ≤ 14) (h0 : 0 ≤ x) (h1 : x ≤ 1000000000)
    (hrest : Ev (fun k => impl_PlainCode.l1 k (out.set i (strOfNums (sgns x 14 len))) (wrap64 (x + shl .i64 1 (wrap64 (14 - (len : Int))))) order x42 (wrap64 (x43 + 1)) l) R) :
    Ev (fun k => impl_PlainCode.l2 k out x (i : Int) order x42 x43 (len : Int) 0 l) R := by
  have h14 : wrap64 (14 - (len : Int)) = 14 - (len : Int) := w64 (by omega) (by omega)
  have key := ev_down (R := fun _ => R) (g := fun k j => impl_PlainCode.l2 k (out.set i (strOfNums (sgns x 14 j))) x (i : Int) order x42 x43 (len : Int) (j : Nat) l) len
    (Ev.step (fun k => by simp only [impl_PlainCode.l2]; rfl) (ev_neg (by omega) (ev_pos (by omega) (ev_pos (by omega) (by
      simp only [rd_nat, hlen]
      exact ev_pos (by rw [h14]; omega) hrest)))))
    (fun j hj ih => by
      have h13 : wrap64 (13 - (j : Int)) = ((13 - j : Nat) : Int) := by rw [w64 (by omega) (by omega)]; omega
      obtain ⟨b, hbd⟩ : ∃ b, b = x / 2 ^ (13 - j) % 2 := ⟨_, rfl⟩
      have hb0 : 0 ≤ b ∧ b ≤ 1 := by omega
      have hy : (wrap64 (48 + (Go.bits .and .i64 (shr .i64 x (wrap64 (13 - (j : Int)))) 1))) % 256 = sgn x (13 - j) := by
        rw [h13, shr_nat x (13 - j) (by omega), and_one, sgn, ← hbd, w64 (by omega) (by omega)]; omega
      have hrd : rdOf ByteArray.empty (out.set i (strOfNums (sgns x 14 j))) (i : Int) = strOfNums (sgns x 14 j) := by
        rw [rdOf_nat]; simp [List.getD, ho]
      refine Ev.step (fun k => by simp only [impl_PlainCode.l2]; rfl) (ev_pos (by omega) (ev_pos (by omega) (ev_pos (by simpa using ho) (ev_pos (by rw [h13]; omega) ?_))))
      simp only [hy, hrd, Option.bind_some, Int.toNat_natCast, List.set_set, inc (show j ≤ 9223372036854775806 by omega)]
      refine ev_pos (by rw [str_size, str_size, sgns_length]; simp; omega) ?_
      have hsn := sgns_snoc x j 14 (by omega)
      rw [show 14 - 1 - j = 13 - j by omega] at hsn
      rw [← str_app (fun y hy => sgns_range x _ _ y hy) (fun y hy => by have := sgn_range x (13 - j); rw [List.mem_singleton.1 hy]; omega), ← hsn]
      exact ih)
  have := key 0 (Nat.zero_le _)
  have e : out.set i (strOfNums (sgns x 14 0)) = out := by
    have e2 : out[i] = strOfNums (sgns x 14 0) := by
      have : out.getD i ByteArray.empty = out[i] := by simp [List.getD, List.getElem?_eq_getElem ho]
      rw [← this, he]; rfl
    rw [← e2]; exact List.set_getElem_self ho
  rw [e] at this
  exact this
/-- One index's turn: its text, and what is next. -/
def turn (l : List Int) (st : List ByteArray × Int) (i : Nat) : List ByteArray × Int := (st.1.set i (strOfNums (sgns st.2 14 (l.getD i 0).toNat)), st.2 + 2 ^ (14 - (l.getD i 0).toNat))
theorem next_w (x : Int) (len : Nat) (h0 : 0 ≤ x) (h1 : x ≤ 2000000) (hl : len ≤ 14) (hl0 : 1 ≤ len) : wrap64 (x + shl .i64 1 (wrap64 (14 - (len : Int)))) = x + 2 ^ (14 - len) ∧ (0 : Int) ≤ 2 ^ (14 - len) ∧ (2 : Int) ^ (14 - len) ≤ 8192 := by
  have h14 : wrap64 (14 - (len : Int)) = ((14 - len : Nat) : Int) := by rw [w64 (by omega) (by omega)]; omega
  have hp : ∀ m : Nat, m ≤ 13 → (0 : Int) ≤ 2 ^ m ∧ (2 : Int) ^ m ≤ 8192 := fun m hm => by
    have : ∀ m : Fin 14, (0 : Int) ≤ 2 ^ m.1 ∧ (2 : Int) ^ m.1 ≤ 8192 := by decide
    exact this ⟨m, by omega⟩
  obtain ⟨p0, p1⟩ := hp (14 - len) (by omega)
  have hs : shl .i64 1 (((14 - len : Nat) : Int)) = 2 ^ (14 - len) := by
    unfold shl
    rw [Int.toNat_natCast, Nat.min_eq_left (show 14 - len ≤ IntKind.i64.bits by show 14 - len ≤ 64; omega), Int.one_mul, IntKind.wrap_i64]
    omega
  rw [h14, hs]
  exact ⟨w64 (by omega) (by omega), p0, p1⟩
theorem l1_ev {l : List Int} (hb : ∀ i, i < l.length → 1 ≤ l.getD i 0 ∧ l.getD i 0 ≤ 14) (ord : List Nat) (hn : ord.length ≤ 12) (ho : ∀ i ∈ ord, i < l.length) : ∀ (q p : Nat) (out : List ByteArray) (x : Int), ord.length - p = q → p ≤ ord.length → out.length = l.length → 0 ≤ x → x ≤ 8192 * p → (∀ i ∈ ord.drop p, out.getD i ByteArray.empty = (⟨#[]⟩ : ByteArray)) → (ord.drop p).Nodup →
    Ev (fun k => impl_PlainCode.l1 k out x (ord.map fun i : Nat => (i : Int)) (ord.length : Int) (p : Nat) l) (((ord.drop p).foldl (turn l) (out, x)).1, true) := by
  intro q
  induction q with
  | zero =>
    intro p out x hq hp hol h0 hx he hnd
    rw [List.drop_eq_nil_iff.2 (by omega)]
    exact Ev.step (fun k => by simp only [impl_PlainCode.l1]; rfl) (ev_neg (by omega) (ev_eq rfl))
  | succ q ih =>
    intro p out x hq hp hol h0 hx he hnd
    have hp2 : p < ord.length := by omega
    have hd : ord.drop p = ord[p] :: ord.drop (p + 1) := List.drop_eq_getElem_cons hp2
    obtain ⟨i, hi⟩ : ∃ i, i = ord[p] := ⟨_, rfl⟩
    have hil : i < l.length := ho i (by rw [hi]; exact List.getElem_mem hp2)
    have hrd : rd (ord.map fun i : Nat => (i : Int)) (p : Int) = (i : Int) := by
      rw [rd_nat]; simp [List.getD, List.getElem?_eq_getElem hp2, hi]
    obtain ⟨b1, b2⟩ := hb i hil
    obtain ⟨len, hlen⟩ : ∃ len : Nat, l.getD i 0 = (len : Int) := ⟨(l.getD i 0).toNat, by omega⟩
    rw [hd, ← hi] at he hnd ⊢
    obtain ⟨w1, w2, w3⟩ := next_w x len h0 (by omega) (by omega) (by omega)
    rw [List.foldl_cons]
    have hturn : turn l (out, x) i = (out.set i (strOfNums (sgns x 14 len)), x + 2 ^ (14 - len)) := by
      unfold turn; rw [hlen, Int.toNat_natCast]
    rw [hturn]
    have hrest := ih (p + 1) (out.set i (strOfNums (sgns x 14 len))) (x + 2 ^ (14 - len)) (by omega) (by omega) (by rw [List.length_set]; exact hol) (by omega) (by omega) (fun j hj => by
      have hne : i ≠ j := fun e => (List.nodup_cons.1 hnd).1 (e ▸ hj)
      have := he j (List.mem_cons_of_mem _ hj)
      rw [List.getD_eq_getElem?_getD] at this ⊢
      rw [List.getElem?_set_ne hne]; exact this) (List.nodup_cons.1 hnd).2
    refine Ev.step (fun k => by simp only [impl_PlainCode.l1]; rfl) (ev_pos (by omega) (ev_pos (by omega) (ev_pos (by rw [List.length_map]; omega) ?_)))
    simp only [hrd]
    refine ev_pos (by omega) (ev_pos (by omega) ?_)
    simp only [rd_nat, hlen]
    refine l2_ev hil (by omega) (he i (List.mem_cons_self ..)) hlen (by omega) h0 (by omega) ?_
    rw [w1, inc (show p ≤ 9223372036854775806 by omega)]
    exact hrest
theorem turn_bounds {l : List Int} (hb : ∀ i, i < l.length → 1 ≤ l.getD i 0 ∧ l.getD i 0 ≤ 14) : ∀ (S : List Nat) (out : List ByteArray) (x : Int), (∀ i ∈ S, i < l.length) → 0 ≤ x → (S.foldl (turn l) (out, x)).1.length = out.length ∧ 0 ≤ (S.foldl (turn l) (out, x)).2 ∧ (S.foldl (turn l) (out, x)).2 ≤ x + 8192 * (S.length : Int)
  | [], out, x, _, h0 => ⟨rfl, h0, by simp⟩
  | i :: S, out, x, hS, h0 => by
    obtain ⟨b1, b2⟩ := hb i (hS i (List.mem_cons_self ..))
    have hp : ∀ m : Nat, m ≤ 13 → (0 : Int) ≤ 2 ^ m ∧ (2 : Int) ^ m ≤ 8192 := fun m hm => by
      have : ∀ m : Fin 14, (0 : Int) ≤ 2 ^ m.1 ∧ (2 : Int) ^ m.1 ≤ 8192 := by decide
      exact this ⟨m, by omega⟩
    obtain ⟨p0, p1⟩ := hp (14 - (l.getD i 0).toNat) (by omega)
    obtain ⟨e1, e2, e3⟩ := turn_bounds hb S (out.set i (strOfNums (sgns x 14 (l.getD i 0).toNat))) (x + 2 ^ (14 - (l.getD i 0).toNat)) (fun j hj => hS j (List.mem_cons_of_mem _ hj)) (by omega)
    rw [List.foldl_cons]
    refine ⟨e1.trans (List.length_set ..), e2, Int.le_trans e3 ?_⟩
    rw [List.length_cons]; push_cast; omega
/-- The indices of a length, from a place on. -/
def idxs (l : List Int) (len p : Nat) : List Nat := ((List.range l.length).drop p).filter fun i => decide (l.getD i 0 = (len : Int))
theorem idxs_mem {l : List Int} {len p i : Nat} (h : i ∈ idxs l len p) : i < l.length := List.mem_range.1 (List.mem_of_mem_drop (List.mem_filter.1 h).1)
theorem idxs_length (l : List Int) (len p : Nat) : (idxs l len p).length ≤ l.length := by
  refine Nat.le_trans (List.length_filter_le _ _) ?_
  rw [List.length_drop, List.length_range]; omega
theorem plain_l1_ev {l : List Int} (hn : l.length ≤ 12) (hb : ∀ i, i < l.length → 1 ≤ l.getD i 0 ∧ l.getD i 0 ≤ 14) {len : Nat} (hl1 : 1 ≤ len) (hl : len ≤ 14) {R : List ByteArray} : ∀ (q p : Nat) (out : List ByteArray) (x : Int), l.length - p = q → p ≤ l.length → out.length = l.length → 0 ≤ x → x ≤ 8192 * (12 * (len - 1 : Nat) + p : Nat) →
    Ev (fun k => spec_l10Plain.l0 k l ((idxs l len p).foldl (turn l) (out, x)).1 ((idxs l len p).foldl (turn l) (out, x)).2 ((len + 1 : Nat) : Int)) R → Ev (fun k => spec_l10Plain.l1 k l out x (len : Int) (p : Nat)) R := by
  intro q
  induction q with
  | zero =>
    intro p out x hq hp ho h0 hx hr
    have e : idxs l len p = [] := by unfold idxs; rw [List.drop_eq_nil_iff.2 (by rw [List.length_range]; omega)]; rfl
    rw [e] at hr
    refine Ev.step (fun k => by simp only [spec_l10Plain.l1]; rfl) (ev_neg (by omega) ?_)
    rw [inc (show len ≤ 9223372036854775806 by omega)]
    exact hr
  | succ q ih =>
    intro p out x hq hp ho h0 hx hr
    have hp2 : p < l.length := by omega
    have hd : (List.range l.length).drop p = p :: (List.range l.length).drop (p + 1) := by
      rw [List.drop_eq_getElem_cons (by rw [List.length_range]; exact hp2), List.getElem_range]
    obtain ⟨w1, w2, w3⟩ := next_w x len h0 (by omega) hl hl1
    refine Ev.step (fun k => by simp only [spec_l10Plain.l1]; rfl) (ev_pos (by omega) (ev_pos (by omega) ?_))
    simp only [rd_nat, inc (show p ≤ 9223372036854775806 by omega)]
    by_cases h : l.getD p 0 = (len : Int)
    · have e : idxs l len p = p :: idxs l len (p + 1) := by unfold idxs; rw [hd, List.filter_cons_of_pos (by simpa using h)]
      have hturn : turn l (out, x) p = (out.set p (strOfNums (sgns x 14 len)), x + 2 ^ (14 - len)) := by
        unfold turn; rw [h, Int.toNat_natCast]
      rw [e, List.foldl_cons, hturn] at hr
      have h14 : wrap64 (14 - (len : Int)) = ((14 - len : Nat) : Int) := by rw [w64 (by omega) (by omega)]; omega
      refine ev_pos h (ev_pos (by rw [h14]; omega) ?_)
      have hdg := digits_ev x len h0 (by omega) hl
      rw [← shr_nat x (14 - len) (by omega), ← h14] at hdg
      refine Ev.bind hdg (ev_pos (by omega) ?_)
      rw [w1, Int.toNat_natCast]
      exact ih (p + 1) _ _ (by omega) (by omega) (by rw [List.length_set]; exact ho) (by omega) (by omega) hr
    · have e : idxs l len p = idxs l len (p + 1) := by unfold idxs; rw [hd, List.filter_cons_of_neg (by simpa using h)]
      rw [e] at hr
      exact ev_neg h (ih (p + 1) out x (by omega) (by omega) ho h0 (by omega) hr)
/-- The order in which the reference goes. -/
def ords (l : List Int) : Nat → Nat → List Nat
  | _, 0 => []
  | d, n + 1 => idxs l d 0 ++ ords l (d + 1) n
theorem plain_l0_ev {l : List Int} (hn : l.length ≤ 12) (hb : ∀ i, i < l.length → 1 ≤ l.getD i 0 ∧ l.getD i 0 ≤ 14) : ∀ (q len : Nat) (out : List ByteArray) (x : Int), 15 - len = q → 1 ≤ len → len ≤ 15 → out.length = l.length → 0 ≤ x → x ≤ 8192 * (12 * (len - 1 : Nat) : Nat) →
    Ev (fun k => spec_l10Plain.l0 k l out x (len : Nat)) ((ords l len q).foldl (turn l) (out, x)).1 := by
  intro q
  induction q with
  | zero =>
    intro len out x hq h1 h2 ho h0 hx
    exact Ev.step (fun k => by simp only [spec_l10Plain.l0]; rfl) (ev_neg (by omega) (ev_eq rfl))
  | succ q ih =>
    intro len out x hq h1 h2 ho h0 hx
    obtain ⟨t1, t2, t3⟩ := turn_bounds hb (idxs l len 0) out x (fun i hi => idxs_mem hi) h0
    have hlen := idxs_length l len 0
    refine Ev.step (fun k => by simp only [spec_l10Plain.l0]; rfl) (ev_pos (by omega) ?_)
    refine plain_l1_ev hn hb h1 (by omega) _ 0 out x rfl (Nat.zero_le _) ho h0 (by omega) ?_
    rw [ords, List.foldl_append]
    exact ih (len + 1) _ _ (by omega) (by omega) (by omega) (by rw [t1]; exact ho) t2 (by omega)
end Go.Proofs.Ytknonolfgpknjaa.Pl
