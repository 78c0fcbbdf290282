/- Plain lemmas: rounds ('Ev'), loops, bytes, wrap. No program in it. -/
import Derived.Lib.Strings
import Derived.Lib.Bytealg
import Derived.Lib.SlicesCompact
import Derived.Lib.RowBridge
import Derived.Sort.Walk0
import Derived.Lib.SlTrimSet
import Derived.Laws.BitsLemmas
import Derived.Test.YtcplbbflfgckbabGreatDoorK
import Derived.Test.YtcplbbflfgckbabGreatDoorX0
set_option linter.unusedVariables false
set_option linter.unusedSimpArgs false
set_option linter.unusedVariables false
set_option linter.unusedSimpArgs false
namespace Go.Proofs.YtcplbbflfgckbabGreatDoor.Pl
open Go.RowKit Go.Ab.Pw Go.Proofs.YtcplbbflfgckbabGreatDoorW.PrintWords Go.Proofs.YtcplbbflfgckbabGreatDoorW.PrintLast Go.Proofs.YtcplbbflfgckbabGreatDoorW.PrintMore

theorem w64 {x : Int} (h1 : -9223372036854775808 ≤ x) (h2 : x ≤ 9223372036854775807) : wrap64 x = x := by unfold wrap64; omega
section
variable {α β : Type} {A B : Nat → Option α} {r : α}
theorem ev_pos {c : Prop} [Decidable c] (hc : c) (h : Ev A r) : Ev (fun k => if c then A k else B k) r := Ev.congr (fun _ => if_pos hc) h
theorem ev_neg {c : Prop} [Decidable c] (hc : ¬ c) (h : Ev B r) : Ev (fun k => if c then A k else B k) r := Ev.congr (fun _ => if_neg hc) h
theorem ev_ite {c : Prop} [Decidable c] (h1 : c → Ev A r) (h2 : ¬ c → Ev B r) : Ev (fun k => if c then A k else B k) r := by
  by_cases hc : c
  · exact ev_pos hc (h1 hc)
  · exact ev_neg hc (h2 hc)
theorem ev_eq {a : α} (h : a = r) : Ev (fun _ => some a) r := h ▸ Ev.now a
theorem ev_some {a : β} {f : Nat → β → Option α} (h : Ev (fun k => f k a) r) : Ev (fun k => (some a).bind (f k)) r := h
theorem ev_down {R : Nat → α} {g : Nat → Nat → Option α} (n : Nat) (hend : Ev (fun k => g k n) (R n)) (hstep : ∀ i, i < n → Ev (fun k => g k (i + 1)) (R (i + 1)) → Ev (fun k => g k i) (R i)) : ∀ i, i ≤ n → Ev (fun k => g k i) (R i) := by
  have : ∀ d i, n - i = d → i ≤ n → Ev (fun k => g k i) (R i) := by
    intro d
    induction d with
    | zero => intro i h1 h2; obtain rfl : i = n := by omega
              exact hend
    | succ d ih => intro i h1 h2; exact hstep i (by omega) (ih (i + 1) (by omega) (by omega))
  intro i hi
  exact this _ i rfl hi
end
/-- For all places below n, then fin. -/
def allN (n : Nat) (P : Nat → Bool) : Bool := (List.range n).all P
theorem allN_iff {n : Nat} {P : Nat → Bool} : allN n P = true ↔ ∀ i, i < n → P i = true := by simp [allN]
theorem allN_congr {n : Nat} {P Q : Nat → Bool} (h : ∀ i, i < n → P i = Q i) : allN n P = allN n Q := by
  rw [Bool.eq_iff_iff, allN_iff, allN_iff]
  exact ⟨fun k i hi => by rw [← h i hi]; exact k i hi, fun k i hi => by rw [h i hi]; exact k i hi⟩
theorem ev_all {g : Nat → Nat → Option Bool} {n : Nat} {P : Nat → Bool} {fin : Bool} (hend : Ev (fun k => g k n) fin) (hstep : ∀ i, i < n → ∀ R, Ev (fun k => g k (i + 1)) R → Ev (fun k => g k i) (P i && R)) : Ev (fun k => g k 0) (allN n P && fin) := by
  have h := ev_down (g := g) (R := fun i => ((List.range n).drop i).all P && fin) n (by rw [List.drop_of_length_le (by simp)]; simpa using hend) (fun i hi ih => by
    have e : (List.range n).drop i = i :: (List.range n).drop (i + 1) := by
      rw [List.drop_eq_getElem_cons (by simpa using hi)]; simp
    have := hstep i hi _ ih
    rw [e, List.all_cons, Bool.and_assoc]
    exact this) 0 (Nat.zero_le _)
  simpa [allN] using h
theorem rdOf_nat {α : Type} (z : α) (l : List α) (i : Nat) : rdOf z l (i : Int) = l.getD i z := rfl
theorem rd_nat (l : List Int) (i : Nat) : rd l (i : Int) = l.getD i 0 := rfl
theorem getD_mem {α : Type} {l : List α} {i : Nat} (h : i < l.length) (z : α) : l.getD i z ∈ l := by
  rw [List.getD_eq_getElem?_getD, List.getElem?_eq_getElem h]; simp
theorem inc {i : Nat} (h : i ≤ 9223372036854775806) : wrap64 ((i : Int) + 1) = ((i + 1 : Nat) : Int) := by rw [w64 (by omega) (by omega)]; omega
/-- A copy, place by place. -/
theorem ev_copy {α : Type} {d z : α} {xs : List α} {g : Nat → List α → Nat → Option (List α)} (hstep : ∀ k ys i, i < xs.length → ys.length = xs.length → g (k + 1) ys i = g k (ys.set i (xs.getD i d)) (i + 1)) (hend : ∀ k ys, g (k + 1) ys xs.length = some ys) : Ev (fun k => g k (List.replicate xs.length z) 0) xs := by
  have key : ∀ m i ys, xs.length - i = m → i ≤ xs.length → ys.length = xs.length → ys.take i = xs.take i → Ev (fun k => g k ys i) xs := by
    intro m
    induction m with
    | zero =>
      intro i ys hm hi hl ht
      obtain rfl : i = xs.length := by omega
      refine Ev.step (fun k => hend k ys) (ev_eq ?_)
      rw [List.take_of_length_le (by omega), List.take_of_length_le (by omega)] at ht
      exact ht
    | succ m ih =>
      intro i ys hm hi hl ht
      refine Ev.step (fun k => hstep k ys i (by omega) hl) (ih (i + 1) _ (by omega) (by omega) (by simpa using hl) ?_)
      have h1 : i < xs.length := by omega
      rw [List.take_succ_eq_append_getElem (by simpa using (by omega : i < ys.length)), List.take_succ_eq_append_getElem h1]
      congr 1
      · rw [List.take_set_of_le (by omega)]; exact ht
      · simp [List.getD, List.getElem?_eq_getElem h1]
  exact key _ 0 _ rfl (Nat.zero_le _) (by simp) (by simp)
theorem ev_eqlist {α : Type} [DecidableEq α] {z : α} {xs ys : List α} (hl : xs.length = ys.length) {g : Nat → Nat → Option Bool} (hend : Ev (fun k => g k xs.length) true) (hstep : ∀ i, i < xs.length → ∀ R, Ev (fun k => g k (i + 1)) R → Ev (fun k => g k i) (decide (xs.getD i z = ys.getD i z) && R)) : Ev (fun k => g k 0) (decide (xs = ys)) := by
  have h := ev_all (P := fun i => decide (xs.getD i z = ys.getD i z)) hend hstep
  rw [Bool.and_true] at h
  have e : allN xs.length (fun i => decide (xs.getD i z = ys.getD i z)) = decide (xs = ys) := by
    rw [Bool.eq_iff_iff, allN_iff, decide_eq_true_iff]
    constructor
    · intro h
      refine List.ext_getElem hl fun i h1 h2 => ?_
      have := of_decide_eq_true (h i h1)
      simpa [List.getD, List.getElem?_eq_getElem h1, List.getElem?_eq_getElem h2] using this
    · rintro rfl i _; simp
  rwa [e] at h
/-! ### bytes -/
instance : DecidableEq ByteArray := fun a b => decidable_of_iff (bytesOf a = bytesOf b) ⟨by
  intro h
  cases a with
  | mk a => cases b with
    | mk b =>
      congr 1
      apply Array.toList_inj.1
      unfold bytesOf at h
      refine List.map_inj_right (f := fun b : UInt8 => (b.toNat : Int)) ?_ |>.1 h
      intro x y hxy
      exact UInt8.toNat.inj (by have h2 : (x.toNat : Int) = (y.toNat : Int) := hxy; omega), fun h => by rw [h]⟩
theorem toList_bytes (s : ByteArray) : s.toList = s.data.toList := Lib.toList_data s
theorem bt_eq (s : ByteArray) (i : Nat) : bt s i = (bytesOf s).getD i 0 := by rw [← rd_bytesOf]; rfl
theorem drop_cons {α : Type} {l : List α} {i : Nat} (h : i < l.length) (z : α) : l.drop i = l.getD i z :: l.drop (i + 1) := by
  rw [List.drop_eq_getElem_cons h]; simp [List.getD, List.getElem?_eq_getElem h]
theorem bytes_drop {s : ByteArray} {i : Nat} (h : i < s.size) : (bytesOf s).drop i = bt s i :: (bytesOf s).drop (i + 1) := by
  rw [bt_eq]; exact drop_cons (by rw [bytesOf_length]; exact h) 0
theorem bytes_end (s : ByteArray) : (bytesOf s).drop s.size = [] := by rw [List.drop_eq_nil_iff]; simp [bytesOf_length]
theorem bytes_range {s : ByteArray} {c : Int} (h : c ∈ bytesOf s) : 0 ≤ c ∧ c ≤ 255 := by
  unfold bytesOf at h
  obtain ⟨b, _, rfl⟩ := List.mem_map.1 h
  have := b.toNat_lt
  omega
theorem bytes_inj {s t : ByteArray} (h : bytesOf s = bytesOf t) : s = t := by
  cases s with
  | mk a => cases t with
    | mk b =>
      congr 1
      apply Array.toList_inj.1
      unfold bytesOf at h
      refine List.map_inj_right (f := fun b : UInt8 => (b.toNat : Int)) ?_ |>.1 h
      intro x y hxy
      exact UInt8.toNat.inj (by have h2 : (x.toNat : Int) = (y.toNat : Int) := hxy; omega)
theorem toList_inj {s t : ByteArray} : s.toList = t.toList ↔ s = t := by
  rw [toList_bytes, toList_bytes]
  constructor
  · intro h
    exact bytes_inj (by unfold bytesOf; rw [h])
  · rintro rfl; rfl
theorem bytes_extract (s : ByteArray) (a b : Nat) : bytesOf (s.extract a b) = ((bytesOf s).drop a).take (b - a) := by
  unfold bytesOf
  rw [Lib.extract_data, List.map_take, List.map_drop]
theorem bytes_nil {s : ByteArray} : s.toList = [] ↔ bytesOf s = [] := by rw [toList_bytes]; simp [bytesOf]
theorem bytes_size (s : ByteArray) : (bytesOf s).length = s.size := bytesOf_length s
theorem indexByte_neg (l : List UInt8) (c : UInt8) : Lib.indexByte l c < 0 ↔ c ∉ l := by
  induction l with
  | nil => simp [Lib.indexByte]
  | cons b l ih =>
    have hge := Lib.indexByte_ge l c
    simp only [Lib.indexByte, List.mem_cons, not_or]
    by_cases h : b = c
    · subst h; simp
    · have h' : (b == c) = false := by simpa using h
      rw [h']
      simp only [Bool.false_eq_true, if_false]
      by_cases hm : Lib.indexByte l c = -1
      · rw [hm]; simp
        exact ⟨fun e => h e.symm, ih.1 (by omega)⟩
      · have : (Lib.indexByte l c == -1) = false := by simpa using hm
        rw [this]; simp only [Bool.false_eq_true, if_false]
        constructor
        · intro hlt; omega
        · intro ⟨_, h2⟩; have := ih.2 h2; omega
end Go.Proofs.YtcplbbflfgckbabGreatDoor.Pl
/- Plain: words as lists of bytes: their order, sorted lists with each word once, beginnings. No program in it. -/
namespace Go.Proofs.YtcplbbflfgckbabGreatDoor.Pl
open Go.RowKit Go.Ab.Pw Go.Proofs.YtcplbbflfgckbabGreatDoorW.PrintWords

abbrev Wd := List UInt8
def bw (s : ByteArray) : Wd := s.data.toList
def wb (l : Wd) : ByteArray := ⟨l.toArray⟩
theorem bw_wb (l : Wd) : bw (wb l) = l := by simp [bw, wb]
theorem wb_bw (s : ByteArray) : wb (bw s) = s := by simp [bw, wb]
theorem bw_inj {s t : ByteArray} (h : bw s = bw t) : s = t := by rw [← wb_bw s, h, wb_bw]
theorem bw_size (s : ByteArray) : (bw s).length = s.size := Array.length_toList
theorem wb_size (l : Wd) : (wb l).size = l.length := by simp [wb, ByteArray.size]
theorem toList_bw (s : ByteArray) : s.toList = bw s := toList_bytes s
/-! ### the order -/
theorem lt_irr (a : Wd) : ¬ a < a := List.lt_irrefl a
theorem lt_tr {a b c : Wd} (h1 : a < b) (h2 : b < c) : a < c := List.lt_trans h1 h2
theorem lt_tri (a b : Wd) : a < b ∨ a = b ∨ b < a := by
  by_cases h1 : a < b
  · exact .inl h1
  · by_cases h2 : b < a
    · exact .inr (.inr h2)
    · exact .inr (.inl (List.le_antisymm (List.not_lt.1 h2) (List.not_lt.1 h1)))
theorem le_of_lt' {a b : Wd} (h : a < b) : a ≤ b := List.le_of_lt h
theorem le_iff (a b : Wd) : a ≤ b ↔ a < b ∨ a = b := by
  constructor
  · intro h
    rcases lt_tri a b with h1 | h1 | h1
    · exact .inl h1
    · exact .inr h1
    · exact absurd h1 (List.not_lt.2 h)
  · rintro (h | rfl)
    · exact le_of_lt' h
    · exact List.le_refl _
theorem lt_append (a : Wd) (x : UInt8) (b : Wd) : a < a ++ x :: b := by
  induction a with
  | nil => exact List.Lex.nil
  | cons y a ih => exact List.Lex.cons ih
theorem lt_take {w : Wd} {n : Nat} (h : n < w.length) : w.take n < w := by
  have e : w = w.take n ++ w[n] :: w.drop (n + 1) := by rw [← List.drop_eq_getElem_cons h, List.take_append_drop]
  exact Eq.mp (congrArg (fun z => w.take n < z) e.symm) (lt_append _ _ _)
/-! ### sorted, each once -/
def SS (l : List Wd) : Prop := l.Pairwise (· < ·)
theorem SS.ext : ∀ {l m : List Wd}, SS l → SS m → (∀ x, x ∈ l ↔ x ∈ m) → l = m
  | [], [], _, _, _ => rfl
  | [], y :: m, _, _, h => absurd ((h y).2 List.mem_cons_self) (by simp)
  | x :: l, [], _, _, h => absurd ((h x).1 List.mem_cons_self) (by simp)
  | x :: l, y :: m, hl, hm, h => by
    have hl' := List.pairwise_cons.1 hl
    have hm' := List.pairwise_cons.1 hm
    have e : x = y := by
      rcases lt_tri x y with h1 | h1 | h1
      · rcases List.mem_cons.1 ((h x).1 List.mem_cons_self) with rfl | h2
        · rfl
        · exact absurd (lt_tr h1 (hm'.1 x h2)) (lt_irr _)
      · exact h1
      · rcases List.mem_cons.1 ((h y).2 List.mem_cons_self) with rfl | h2
        · rfl
        · exact absurd (lt_tr h1 (hl'.1 y h2)) (lt_irr _)
    subst e
    congr 1
    refine SS.ext hl'.2 hm'.2 fun z => ⟨fun hz => ?_, fun hz => ?_⟩
    · rcases List.mem_cons.1 ((h z).1 (List.mem_cons_of_mem _ hz)) with rfl | h2
      · exact absurd (hl'.1 z hz) (lt_irr _)
      · exact h2
    · rcases List.mem_cons.1 ((h z).2 (List.mem_cons_of_mem _ hz)) with rfl | h2
      · exact absurd (hm'.1 z hz) (lt_irr _)
      · exact h2
/-- A word put to its place, once. -/
def ins : List Wd → Wd → List Wd
  | [], w => [w]
  | x :: l, w => if x < w then x :: ins l w else if x = w then x :: l else w :: x :: l
theorem mem_ins (l : List Wd) (w x : Wd) : x ∈ ins l w ↔ x = w ∨ x ∈ l := by
  induction l with
  | nil => simp [ins]
  | cons y l ih =>
    unfold ins
    by_cases h1 : y < w
    · rw [if_pos h1, List.mem_cons, ih, List.mem_cons]
      constructor
      · rintro (h | h | h)
        · exact .inr (.inl h)
        · exact .inl h
        · exact .inr (.inr h)
      · rintro (h | h | h)
        · exact .inr (.inl h)
        · exact .inl h
        · exact .inr (.inr h)
    · rw [if_neg h1]
      by_cases h2 : y = w
      · rw [if_pos h2]; subst h2; simp
      · rw [if_neg h2]; simp
theorem ins_SS {l : List Wd} (h : SS l) (w : Wd) : SS (ins l w) := by
  induction l with
  | nil => simp [ins, SS]
  | cons y l ih =>
    have h' := List.pairwise_cons.1 h
    unfold ins
    by_cases h1 : y < w
    · rw [if_pos h1]
      refine List.pairwise_cons.2 ⟨fun z hz => ?_, ih h'.2⟩
      rcases (mem_ins l w z).1 hz with rfl | hz
      · exact h1
      · exact h'.1 z hz
    · rw [if_neg h1]
      by_cases h2 : y = w
      · rw [if_pos h2]; exact h
      · rw [if_neg h2]
        have h3 : w < y := by
          rcases lt_tri y w with h4 | h4 | h4
          · exact absurd h4 h1
          · exact absurd h4 h2
          · exact h4
        refine List.pairwise_cons.2 ⟨fun z hz => ?_, h⟩
        rcases List.mem_cons.1 hz with rfl | hz
        · exact h3
        · exact lt_tr h3 (h'.1 z hz)
/-- The words of a list, sorted, each once. -/
def setW (l : List Wd) : List Wd := Lib.compact (l.mergeSort fun x y => decide (x ≤ y))
theorem sorted_le (l : List Wd) : (l.mergeSort fun x y => decide (x ≤ y)).Pairwise (· ≤ ·) := by
  have h := List.pairwise_mergeSort (le := fun x y : Wd => decide (x ≤ y)) (fun a b c h1 h2 => by
    simp only [decide_eq_true_eq] at h1 h2 ⊢; exact List.le_trans h1 h2) (fun a b => by
    simp only [Bool.or_eq_true, decide_eq_true_eq]; exact List.le_total a b) l
  exact h.imp (fun h => by simpa using h)
theorem getE_eq {l : List Wd} {i : Nat} (h : i < l.length) : l.toArray[i]! = l[i] := by
  rw [getElem!_pos l.toArray i (by simpa using h)]; simp
theorem mem_compact (l : List Wd) (x : Wd) : x ∈ Lib.compact l ↔ x ∈ l := by
  unfold Lib.compact Lib.compactUpTo
  rw [List.mem_map]
  constructor
  · rintro ⟨i, hi, rfl⟩
    have hi' := List.mem_range.1 (List.mem_filter.1 hi).1
    rw [getE_eq hi']
    exact List.getElem_mem hi'
  · intro hx
    obtain ⟨n, hn, hnx⟩ := List.getElem_of_mem hx
    have key : ∀ d n (hn : n < l.length), n ≤ d → l[n] = x → ∃ i, i ∈ (List.range l.length).filter (Lib.keeps l.toArray) ∧ l.toArray[i]! = x := by
      intro d
      induction d with
      | zero =>
        intro n hn hd he
        obtain rfl : n = 0 := by omega
        exact ⟨0, List.mem_filter.2 ⟨List.mem_range.2 hn, by simp [Lib.keeps]⟩, by rw [getE_eq hn]; exact he⟩
      | succ d ih =>
        intro n hn hd he
        by_cases hk : Lib.keeps l.toArray n = true
        · exact ⟨n, List.mem_filter.2 ⟨List.mem_range.2 hn, hk⟩, by rw [getE_eq hn]; exact he⟩
        · have h0 : n ≠ 0 := fun e => hk (by subst e; simp [Lib.keeps])
          have h1 : l.toArray[n]! = l.toArray[n - 1]! := by
            simp only [Lib.keeps, decide_eq_true_eq, not_or, Classical.not_not] at hk
            exact hk.2
          rw [getE_eq hn, getE_eq (by omega : n - 1 < l.length)] at h1
          exact ih (n - 1) (by omega) (by omega) (h1.symm.trans he)
    exact key n n hn (Nat.le_refl _) hnx
theorem compact_SS {l : List Wd} (h : l.Pairwise (· ≤ ·)) : SS (Lib.compact l) := by
  unfold SS Lib.compact Lib.compactUpTo
  rw [List.pairwise_map]
  have hr : ((List.range l.length).filter (Lib.keeps l.toArray)).Pairwise (· < ·) := List.pairwise_lt_range.filter _
  refine List.Pairwise.imp_of_mem ?_ hr
  intro i j hi hj hij
  have hi' := List.mem_range.1 (List.mem_filter.1 hi).1
  have hj' := List.mem_range.1 (List.mem_filter.1 hj).1
  have hk := (List.mem_filter.1 hj).2
  rw [getE_eq hi', getE_eq hj']
  have mono : ∀ a b (ha : a < l.length) (hb : b < l.length), a ≤ b → l[a] ≤ l[b] := by
    intro a b ha hb hab
    rcases Nat.lt_or_ge a b with h1 | h1
    · exact List.pairwise_iff_getElem.1 h a b ha hb h1
    · obtain rfl : a = b := by omega
      exact List.le_refl _
  rcases (le_iff _ _).1 (mono i j hi' hj' (by omega)) with h1 | h1
  · exact h1
  · exfalso
    have h2 := mono i (j - 1) hi' (by omega) (by omega)
    have h3 := mono (j - 1) j (by omega) hj' (by omega)
    have e : l[j] = l[j - 1]'(by omega) := by
      rw [h1] at h2
      exact List.le_antisymm h2 h3
    simp only [Lib.keeps, decide_eq_true_eq] at hk
    rw [getE_eq hj', getE_eq (by omega : j - 1 < l.length)] at hk
    rcases hk with hk | hk
    · omega
    · exact hk e
theorem setW_SS (l : List Wd) : SS (setW l) := compact_SS (sorted_le l)
theorem mem_setW (l : List Wd) (x : Wd) : x ∈ setW l ↔ x ∈ l := by
  unfold setW
  rw [mem_compact, List.mem_mergeSort]
theorem setW_length (l : List Wd) : (setW l).length ≤ l.length := by
  unfold setW
  have := Lib.compact_length_le (l.mergeSort fun x y => decide (x ≤ y))
  rwa [List.length_mergeSort] at this
theorem setW_congr {l m : List Wd} (h : ∀ x, x ∈ l ↔ x ∈ m) : setW l = setW m :=
  (setW_SS l).ext (setW_SS m) (fun x => by rw [mem_setW, mem_setW]; exact h x)
theorem setW_of_SS {l : List Wd} (h : SS l) : setW l = l := (setW_SS l).ext h (fun x => mem_setW l x)
theorem SS.nodup {l : List Wd} (h : SS l) : l.Nodup := h.imp (fun h e => by subst e; exact lt_irr _ h)
/-! ### beginnings -/
/-- All beginnings of a word but the empty one. -/
def inits (w : Wd) : List Wd := (List.range w.length).map fun n => w.take (n + 1)
theorem mem_inits (w p : Wd) : p ∈ inits w ↔ p <+: w ∧ p ≠ [] := by
  unfold inits
  rw [List.mem_map]
  constructor
  · rintro ⟨n, hn, rfl⟩
    have hn := List.mem_range.1 hn
    refine ⟨List.take_prefix _ _, fun e => ?_⟩
    have := congrArg List.length e
    rw [List.length_take, List.length_nil] at this
    omega
  · rintro ⟨h, hne⟩
    have hl := h.length_le
    have h0 : 0 < p.length := List.length_pos_iff.2 hne
    exact ⟨p.length - 1, List.mem_range.2 (by omega), by rw [Nat.sub_add_cancel h0]; exact (List.prefix_iff_eq_take.1 h).symm⟩
/-- The beginnings of all words, the empty one too, sorted. -/
def prefs (ws : List Wd) : List Wd := setW ([] :: ws.flatMap inits)
theorem mem_prefs (ws : List Wd) (p : Wd) : p ∈ prefs ws ↔ p = [] ∨ ∃ w ∈ ws, p <+: w := by
  unfold prefs
  rw [mem_setW, List.mem_cons, List.mem_flatMap]
  constructor
  · rintro (h | ⟨w, hw, h⟩)
    · exact .inl h
    · exact .inr ⟨w, hw, ((mem_inits w p).1 h).1⟩
  · rintro (h | ⟨w, hw, h⟩)
    · exact .inl h
    · by_cases e : p = []
      · exact .inl e
      · exact .inr ⟨w, hw, (mem_inits w p).2 ⟨h, e⟩⟩
theorem prefs_SS (ws : List Wd) : SS (prefs ws) := setW_SS _
theorem prefs_congr {ws vs : List Wd} (h : ∀ x, x ∈ ws ↔ x ∈ vs) : prefs ws = prefs vs :=
  (prefs_SS ws).ext (prefs_SS vs) (fun p => by
    rw [mem_prefs, mem_prefs]
    exact or_congr Iff.rfl ⟨fun ⟨w, hw, hp⟩ => ⟨w, (h w).1 hw, hp⟩, fun ⟨w, hw, hp⟩ => ⟨w, (h w).2 hw, hp⟩⟩)
theorem flat_length {ws : List Wd} {m : Nat} (h : ∀ w ∈ ws, w.length ≤ m) : (ws.flatMap inits).length ≤ ws.length * m := by
  induction ws with
  | nil => simp
  | cons w ws ih =>
    rw [List.flatMap_cons, List.length_append, List.length_cons, Nat.add_mul, Nat.one_mul]
    have h1 := h w List.mem_cons_self
    have h2 := ih (fun v hv => h v (List.mem_cons_of_mem _ hv))
    have h3 : (inits w).length = w.length := by simp [inits]
    omega
theorem prefs_length {ws : List Wd} {m : Nat} (h : ∀ w ∈ ws, w.length ≤ m) : (prefs ws).length ≤ ws.length * m + 1 := by
  have h1 := setW_length ([] :: ws.flatMap inits)
  have h2 := flat_length h
  unfold prefs
  rw [List.length_cons] at h1
  omega
theorem dropLast_prefix' {p w : Wd} (h : p <+: w) : p.dropLast <+: w := (List.dropLast_prefix p).trans h
theorem dropLast_mem {ws : List Wd} {p : Wd} (h : p ∈ prefs ws) : p.dropLast ∈ prefs ws := by
  rw [mem_prefs] at h ⊢
  rcases h with rfl | ⟨w, hw, hp⟩
  · exact .inl rfl
  · exact .inr ⟨w, hw, dropLast_prefix' hp⟩
theorem dropLast_lt {p : Wd} (h : p ≠ []) : p.dropLast < p := by
  rw [List.dropLast_eq_take]
  exact lt_take (by have := List.length_pos_iff.2 h; omega)
theorem prefs_head (ws : List Wd) : ∃ l, prefs ws = [] :: l := by
  have h := prefs_SS ws
  have h0 : ([] : Wd) ∈ prefs ws := (mem_prefs ws []).2 (.inl rfl)
  cases e : prefs ws with
  | nil => rw [e] at h0; simp at h0
  | cons x l =>
    refine ⟨l, ?_⟩
    rw [e] at h h0
    rcases List.mem_cons.1 h0 with h1 | h1
    · rw [h1]
    · exact absurd ((List.pairwise_cons.1 h).1 [] h1) (List.not_lt_nil x)
/-- Where a word stands in a sorted list. -/
theorem SS.idx_lt {l : List Wd} (h : SS l) {i j : Nat} (hi : i < l.length) (hj : j < l.length) (hlt : l[i] < l[j]) : i < j := by
  rcases Nat.lt_or_ge i j with h1 | h1
  · exact h1
  · rcases Nat.lt_or_ge j i with h2 | h2
    · exact absurd (lt_tr hlt (List.pairwise_iff_getElem.1 h j i hj hi h2)) (lt_irr _)
    · obtain rfl : i = j := by omega
      exact absurd hlt (lt_irr _)
end Go.Proofs.YtcplbbflfgckbabGreatDoor.Pl
/- Plain: tries: lists of nodes; the trie of words; the words of a trie. No program in it but the nodes' type. -/
namespace Go.Proofs.YtcplbbflfgckbabGreatDoor.Pl
open Go.RowKit Go.Ab.Pw Go.Proofs.YtcplbbflfgckbabGreatDoorW.PrintWords Go.Proofs.YtcplbbflfgckbabGreatDoor.X

abbrev ND := S65
def zND : ND := ⟨0, 0, false⟩
/-- The letter of a node, as a byte. -/
def letterB (c : Int) : UInt8 := UInt8.ofNat (97 + c.toNat)
/-- The letter of a beginning, as a number. -/
def ltr (p : Wd) : Int := (((p.getLast?.getD 0).toNat : Int) - 97) % 256
def nodeOf (ws ps : List Wd) (p : Wd) : ND := if p = [] then ⟨-1, -1, decide (p ∈ ws)⟩ else ⟨ltr p, (ps.idxOf p.dropLast : Int), decide (p ∈ ws)⟩
/-- The trie of words. -/
def trie (ws : List Wd) : List ND := (prefs ws).map (nodeOf ws (prefs ws))
theorem trie_congr {ws vs : List Wd} (h : ∀ x, x ∈ ws ↔ x ∈ vs) : trie ws = trie vs := by
  unfold trie
  rw [prefs_congr h]
  refine List.map_congr_left fun p _ => ?_
  unfold nodeOf
  rw [show decide (p ∈ ws) = decide (p ∈ vs) from by rw [decide_eq_decide]; exact h p]
theorem trie_length (ws : List Wd) : (trie ws).length = (prefs ws).length := by simp [trie]
/-- The prefixes of nodes, each put together behind those ahead of it; none if a node is out of order. -/
def goP : List Wd → List ND → Option (List Wd)
  | out, [] => some out
  | out, n :: ns => if 0 ≤ n.f1 ∧ n.f1 < (out.length : Int) ∧ 0 ≤ n.f0 ∧ n.f0 ≤ 25 then goP (out ++ [out.getD n.f1.toNat [] ++ [letterB n.f0]]) ns else none
def prefP (t : List ND) : Option (List Wd) := if 1 ≤ t.length ∧ t.length ≤ 481 then goP [[]] (t.drop 1) else none
theorem goP_spec : ∀ {ns : List ND} {out P : List Wd}, goP out ns = some P → P.take out.length = out ∧ P.length = out.length + ns.length ∧
    ∀ j (hj : j < ns.length), 0 ≤ ns[j].f1 ∧ ns[j].f1 < ((out.length + j : Nat) : Int) ∧ 0 ≤ ns[j].f0 ∧ ns[j].f0 ≤ 25 ∧ P.getD (out.length + j) [] = P.getD ns[j].f1.toNat [] ++ [letterB ns[j].f0]
  | [], out, P, h => by
    cases h
    exact ⟨List.take_length, rfl, fun j hj => absurd hj (Nat.not_lt_zero _)⟩
  | n :: ns, out, P, h => by
    unfold goP at h
    by_cases hc : 0 ≤ n.f1 ∧ n.f1 < (out.length : Int) ∧ 0 ≤ n.f0 ∧ n.f0 ≤ 25
    case neg => rw [if_neg hc] at h; cases h
    rw [if_pos hc] at h
    obtain ⟨h1, h2, h3⟩ := goP_spec h
    rw [List.length_append, List.length_singleton] at h1 h2 h3
    have ho : P.take out.length = out := by
      have := congrArg (List.take out.length) h1
      rwa [List.take_take, List.take_left, Nat.min_eq_left (by omega)] at this
    have hat : ∀ i, i < out.length → P.getD i [] = out.getD i [] := by
      intro i hi
      rw [← ho]
      simp only [List.getD_eq_getElem?_getD]
      rw [List.getElem?_take_of_lt hi]
    refine ⟨ho, by rw [h2, List.length_cons]; omega, fun j hj => ?_⟩
    cases j with
    | zero =>
      refine ⟨hc.1, by simpa using hc.2.1, hc.2.2.1, hc.2.2.2, ?_⟩
      have e : P.getD out.length [] = out.getD n.f1.toNat [] ++ [letterB n.f0] := by
        have := congrArg (fun l => l.getD out.length []) h1
        simp only [List.getD_eq_getElem?_getD] at this
        rw [List.getElem?_take_of_lt (by omega), List.getElem?_append_right (Nat.le_refl _)] at this
        simpa using this
      rw [Nat.add_zero, e, List.getElem_cons_zero, hat _ (by omega)]
    | succ j =>
      have := h3 j (by simpa using hj)
      rw [List.getElem_cons_succ]
      rw [show out.length + (j + 1) = out.length + 1 + j by omega]
      exact this
theorem prefP_spec {t : List ND} {P : List Wd} (h : prefP t = some P) : 1 ≤ t.length ∧ t.length ≤ 481 ∧ P.length = t.length ∧ P.getD 0 [] = [] ∧
    ∀ i, 0 < i → (hi : i < t.length) → 0 ≤ t[i].f1 ∧ t[i].f1 < (i : Int) ∧ 0 ≤ t[i].f0 ∧ t[i].f0 ≤ 25 ∧ P.getD i [] = P.getD t[i].f1.toNat [] ++ [letterB t[i].f0] := by
  unfold prefP at h
  by_cases hc : 1 ≤ t.length ∧ t.length ≤ 481
  case neg => rw [if_neg hc] at h; cases h
  rw [if_pos hc] at h
  obtain ⟨h1, h2, h3⟩ := goP_spec h
  rw [List.length_singleton] at h1 h2 h3
  rw [List.length_drop] at h2
  refine ⟨hc.1, hc.2, by omega, ?_, fun i h0 hi => ?_⟩
  · have := congrArg (fun l => l.getD 0 []) h1
    simp only [List.getD_eq_getElem?_getD] at this
    rw [List.getElem?_take_of_lt (by omega)] at this
    simpa using this
  · obtain ⟨j, rfl⟩ : ∃ j, i = j + 1 := ⟨i - 1, by omega⟩
    have := h3 j (by rw [List.length_drop]; omega)
    simp only [List.getElem_drop] at this
    simp only [Nat.add_comm 1 j] at this
    exact this
/-- A word of letters. -/
def okW (w : Wd) : Prop := w.length ≤ 12 ∧ ∀ b ∈ w, 97 ≤ b.toNat ∧ b.toNat ≤ 122
theorem ltr_range {p : Wd} (h : p ≠ []) (hb : ∀ b ∈ p, 97 ≤ b.toNat ∧ b.toNat ≤ 122) : 0 ≤ ltr p ∧ ltr p ≤ 25 ∧ letterB (ltr p) = p.getLast h := by
  have e : p.getLast?.getD 0 = p.getLast h := by rw [List.getLast?_eq_some_getLast h]; rfl
  have hr := hb (p.getLast h) (List.getLast_mem h)
  have hl : ltr p = ((p.getLast h).toNat : Int) - 97 := by
    unfold ltr
    rw [e]; omega
  refine ⟨by omega, by omega, ?_⟩
  unfold letterB
  rw [hl, show 97 + (((p.getLast h).toNat : Int) - 97).toNat = (p.getLast h).toNat by omega]
  exact UInt8.ofNat_toNat
theorem prefs_okW {ws : List Wd} (h : ∀ w ∈ ws, okW w) {p : Wd} (hp : p ∈ prefs ws) : okW p := by
  rcases (mem_prefs ws p).1 hp with rfl | ⟨w, hw, hpw⟩
  · exact ⟨by simp, by simp⟩
  · have hw' := h w hw
    exact ⟨Nat.le_trans hpw.length_le hw'.1, fun b hb => hw'.2 b (hpw.subset hb)⟩
theorem trie_bound {ws : List Wd} (h : ∀ w ∈ ws, okW w) (hl : ws.length ≤ 40) : 1 ≤ (trie ws).length ∧ (trie ws).length ≤ 481 := by
  rw [trie_length]
  obtain ⟨l, e⟩ := prefs_head ws
  have h1 := prefs_length (ws := ws) (m := 12) (fun w hw => (h w hw).1)
  have h2 : (prefs ws).length = l.length + 1 := by rw [e]; rfl
  have h3 : ws.length * 12 ≤ 40 * 12 := Nat.mul_le_mul_right _ hl
  omega
/-- The prefixes of a trie of words are the words' beginnings. -/
theorem prefP_trie {ws : List Wd} (h : ∀ w ∈ ws, okW w) (hl : ws.length ≤ 40) : prefP (trie ws) = some (prefs ws) := by
  unfold prefP
  rw [if_pos (trie_bound h hl)]
  have hS := prefs_SS ws
  have key : ∀ d k, (prefs ws).length - k = d → 1 ≤ k → k ≤ (prefs ws).length → goP ((prefs ws).take k) ((trie ws).drop k) = some (prefs ws) := by
    intro d
    induction d with
    | zero =>
      intro k hd h1 hk
      rw [List.drop_of_length_le (by rw [trie_length]; omega), List.take_of_length_le (by omega)]
      rfl
    | succ d ih =>
      intro k hd h1 hk
      have hk' : k < (prefs ws).length := by omega
      have hk2 : k < (trie ws).length := by rw [trie_length]; exact hk'
      rw [List.drop_eq_getElem_cons hk2]
      have hne : (prefs ws)[k] ≠ [] := by
        intro e
        have h0 : (prefs ws)[0]'(by omega) < (prefs ws)[k] := List.pairwise_iff_getElem.1 hS 0 k (by omega) hk' (by omega)
        rw [e] at h0
        exact List.not_lt_nil _ h0
      have hn : (trie ws)[k] = nodeOf ws (prefs ws) (prefs ws)[k] := by simp [trie]
      have hmem := List.getElem_mem hk'
      have hdm := dropLast_mem hmem
      have hj := List.idxOf_lt_length_of_mem hdm
      have hjv : (prefs ws)[(prefs ws).idxOf (prefs ws)[k].dropLast] = (prefs ws)[k].dropLast := List.getElem_idxOf hj
      have hjk : (prefs ws).idxOf (prefs ws)[k].dropLast < k := hS.idx_lt hj hk' (by rw [hjv]; exact dropLast_lt hne)
      obtain ⟨r1, r2, r3⟩ := ltr_range hne (prefs_okW h hmem).2
      have hlen : ((prefs ws).take k).length = k := by rw [List.length_take]; omega
      unfold goP
      rw [hn]
      unfold nodeOf
      rw [if_neg hne]
      rw [if_pos ⟨Int.natCast_nonneg _, by rw [hlen]; exact Int.ofNat_lt.2 hjk, r1, r2⟩]
      have e : ((prefs ws).take k).getD (((prefs ws).idxOf (prefs ws)[k].dropLast : Nat) : Int).toNat [] ++ [letterB (ltr (prefs ws)[k])] = (prefs ws)[k] := by
        rw [r3, Int.toNat_natCast, List.getD_eq_getElem?_getD, List.getElem?_take_of_lt hjk, List.getElem?_eq_getElem hj, Option.getD_some, hjv]
        exact List.dropLast_concat_getLast hne
      rw [e, ← List.take_succ_eq_append_getElem hk']
      exact ih (k + 1) (by omega) (by omega) hk'
  obtain ⟨l, e⟩ := prefs_head ws
  have h1 := key _ 1 rfl (Nat.le_refl _) (by rw [e]; simp)
  rwa [show (prefs ws).take 1 = [[]] by rw [e]; rfl] at h1
/-- The words of a trie. -/
def wordsP (t : List ND) (P : List Wd) : List Wd := ((List.range t.length).filter fun i => (t.getD i zND).f2).map fun i => P.getD i []
theorem wordsP_trie {ws : List Wd} (h : SS ws) : wordsP (trie ws) (prefs ws) = ws := by
  have e : wordsP (trie ws) (prefs ws) = (prefs ws).filter fun p => decide (p ∈ ws) := by
    unfold wordsP
    rw [trie_length]
    have e1 : (List.range (prefs ws).length).filter (fun i => ((trie ws).getD i zND).f2) = (List.range (prefs ws).length).filter ((fun p => decide (p ∈ ws)) ∘ fun i => (prefs ws).getD i []) := by
      refine List.filter_congr fun i hi => ?_
      have hi := List.mem_range.1 hi
      have hi2 : i < (trie ws).length := by rw [trie_length]; exact hi
      simp only [Function.comp, List.getD_eq_getElem?_getD, List.getElem?_eq_getElem hi, List.getElem?_eq_getElem hi2, Option.getD_some]
      have hn : (trie ws)[i] = nodeOf ws (prefs ws) (prefs ws)[i] := by simp [trie]
      rw [hn]; unfold nodeOf
      split <;> rfl
    rw [e1, ← List.filter_map]
    congr 1
    refine List.ext_getElem (by simp) fun i h1 h2 => ?_
    simp [List.getD_eq_getElem?_getD, List.getElem?_eq_getElem h2]
  rw [e]
  refine SS.ext ((prefs_SS ws).filter _) h fun x => ?_
  rw [List.mem_filter, decide_eq_true_eq]
  exact ⟨fun hx => hx.2, fun hx => ⟨(mem_prefs ws x).2 (.inr ⟨x, hx, List.prefix_refl x⟩), hx⟩⟩
theorem wordsP_length (t : List ND) (P : List Wd) : (wordsP t P).length ≤ t.length := by
  unfold wordsP
  rw [List.length_map]
  exact Nat.le_trans (List.length_filter_le _ _) (by simp)
theorem wordsP_mem {t : List ND} {P : List Wd} (hl : P.length = t.length) {w : Wd} (h : w ∈ wordsP t P) : w ∈ P := by
  unfold wordsP at h
  obtain ⟨i, hi, rfl⟩ := List.mem_map.1 h
  have := List.mem_range.1 (List.mem_filter.1 hi).1
  exact getD_mem (by omega) []
/-- What prefixes are made of. -/
theorem prefP_letters {t : List ND} {P : List Wd} (h : prefP t = some P) {p : Wd} (hp : p ∈ P) : ∀ b ∈ p, 97 ≤ b.toNat ∧ b.toNat ≤ 122 := by
  obtain ⟨h1, h2, h3, h4, h5⟩ := prefP_spec h
  have key : ∀ i, i < t.length → ∀ b ∈ P.getD i [], 97 ≤ b.toNat ∧ b.toNat ≤ 122 := by
    intro i
    induction i using Nat.strongRecOn with
    | _ i ih =>
      intro hi b hb
      rcases Nat.eq_zero_or_pos i with rfl | h0
      · rw [h4] at hb; simp at hb
      · obtain ⟨a1, a2, a3, a4, a5⟩ := h5 i h0 hi
        rw [a5] at hb
        rcases List.mem_append.1 hb with hb | hb
        · exact ih _ (by omega) (by omega) b hb
        · rw [List.mem_singleton] at hb
          subst hb
          unfold letterB
          rw [UInt8.toNat_ofNat', Nat.mod_eq_of_lt (by omega)]
          omega
  obtain ⟨i, hi, rfl⟩ := List.getElem_of_mem hp
  have := key i (by omega)
  rwa [List.getD_eq_getElem?_getD, List.getElem?_eq_getElem hi, Option.getD_some] at this
/-! ### what a valid trie is -/
def IsT (t : List ND) : Prop := ∃ ws, SS ws ∧ (∀ w ∈ ws, okW w) ∧ ws.length ≤ 40 ∧ t = trie ws
open Classical in
noncomputable def isT (t : List ND) : Bool := decide (IsT t)
theorem isT_iff (t : List ND) : isT t = true ↔ IsT t := by unfold isT; simp
/-- What is known of a valid trie. -/
structure TOk (t : List ND) (P : List Wd) : Prop where
  pre : prefP t = some P
  short : ∀ p ∈ P, p.length ≤ 12
theorem IsT.ok {t : List ND} (h : IsT t) : ∃ P, TOk t P := by
  obtain ⟨ws, _, h2, h3, rfl⟩ := h
  exact ⟨prefs ws, prefP_trie h2 h3, fun p hp => (prefs_okW h2 hp).1⟩
/-- As the program asks it. -/
theorem isT_prog (t : List ND) : IsT t ↔ ∃ P, prefP t = some P ∧ (∀ p ∈ P, p.length ≤ 12) ∧ (wordsP t P).length ≤ 40 ∧ (wordsP t P).Pairwise (· ≤ ·) ∧ trie (wordsP t P) = t := by
  constructor
  · rintro ⟨ws, h1, h2, h3, rfl⟩
    refine ⟨prefs ws, prefP_trie h2 h3, fun p hp => (prefs_okW h2 hp).1, ?_⟩
    rw [wordsP_trie h1]
    exact ⟨h3, h1.imp (fun h => le_of_lt' h), rfl⟩
  · rintro ⟨P, h1, h2, h3, h4, h5⟩
    have hP := prefP_spec h1
    refine ⟨setW (wordsP t P), setW_SS _, fun w hw => ?_, Nat.le_trans (setW_length _) h3, ?_⟩
    · have hm := wordsP_mem hP.2.2.1 ((mem_setW _ w).1 hw)
      exact ⟨h2 w hm, prefP_letters h1 hm⟩
    · rw [trie_congr (vs := wordsP t P) (fun x => mem_setW _ x), h5]
/-- As the reference asks it: ws are the words that it takes for the trie's. -/
theorem isT_ref (t : List ND) (hl : 1 ≤ t.length ∧ t.length ≤ 481) (ws : List Wd) (hw : ∀ P, TOk t P → ws = wordsP t P) : IsT t ↔ (∀ w ∈ ws, okW w) ∧ (setW ws).length ≤ 40 ∧ trie (setW ws) = t := by
  constructor
  · rintro ⟨vs, h1, h2, h3, rfl⟩
    have e := hw (prefs vs) ⟨prefP_trie h2 h3, fun p hp => (prefs_okW h2 hp).1⟩
    rw [wordsP_trie h1] at e
    subst e
    rw [setW_of_SS h1]
    exact ⟨h2, h3, rfl⟩
  · rintro ⟨h1, h2, h3⟩
    exact ⟨setW ws, setW_SS _, fun w hw => h1 w ((mem_setW _ w).1 hw), h2, h3.symm⟩
end Go.Proofs.YtcplbbflfgckbabGreatDoor.Pl
/- Plain: the reference's texts and tries: what each function answers. -/
namespace Go.Proofs.YtcplbbflfgckbabGreatDoor.Pl
open Go.RowKit Go.Ab.Pw Go.Proofs.YtcplbbflfgckbabGreatDoorW.PrintWords Go.Proofs.YtcplbbflfgckbabGreatDoorW.PrintLast Go.Proofs.YtcplbbflfgckbabGreatDoorW.PrintMore Go.Proofs.YtcplbbflfgckbabGreatDoor.X

theorem l1In_eq (a b c : Int) : spec_l1In.f a b c = some (decide (b ≤ a ∧ a ≤ c)) := by
  unfold spec_l1In.f
  by_cases h : a ≥ b
  · rw [if_pos h]; congr 1; rw [decide_eq_decide]; exact ⟨fun h2 => ⟨h, h2⟩, fun h2 => h2.2⟩
  · rw [if_neg h]; congr 1; symm; rw [decide_eq_false_iff_not]; exact fun h2 => h h2.1
theorem bt_bw {s : ByteArray} {i : Nat} (h : i < s.size) : bt s (i : Int) = (((bw s)[i]'(by rw [bw_size]; exact h)).toNat : Int) := by
  rw [bt_eq]
  have h2 : i < (bytesOf s).length := by rw [bytes_size]; exact h
  rw [List.getD_eq_getElem?_getD, List.getElem?_eq_getElem h2]
  simp [bytesOf, bw]
theorem u8_inj {a b : UInt8} (h : (a.toNat : Int) = (b.toNat : Int)) : a = b := UInt8.toNat.inj (by omega)
theorem u8_lt (a b : UInt8) : a < b ↔ (a.toNat : Int) < (b.toNat : Int) := by
  rw [UInt8.lt_iff_toNat_lt]; omega
/-! ### the order -/
theorem l2Before_ev (a b : ByteArray) (ha : a.size ≤ 9223372036854775806) (hb : b.size ≤ 9223372036854775806) : Ev (fun k => spec_l2Before.f k a b) (decide (bw a < bw b)) := by
  have key : ∀ d i, a.size - i = d → i ≤ a.size → i ≤ b.size → Ev (fun k => spec_l2Before.l0 k a b i) (decide ((bw a).drop i < (bw b).drop i)) := by
    intro d
    induction d with
    | zero =>
      intro i hd h1 h2
      obtain rfl : i = a.size := by omega
      refine Ev.step (fun k => by unfold spec_l2Before.l0; rfl) (ev_neg (by omega) ?_)
      refine Ev.step (fun k => by unfold spec_l2Before.j1; rfl) (ev_neg (by decide) (ev_eq ?_))
      rw [List.drop_of_length_le (by rw [bw_size]; omega)]
      rw [decide_eq_decide]
      rcases Nat.lt_or_ge a.size b.size with h3 | h3
      · rw [List.drop_eq_getElem_cons (by rw [bw_size]; exact h3)]
        exact ⟨fun _ => List.nil_lt_cons _ _, fun _ => by omega⟩
      · rw [List.drop_of_length_le (by rw [bw_size]; omega)]
        exact ⟨fun h => by omega, fun h => absurd h (lt_irr _)⟩
    | succ d ih =>
      intro i hd h1 h2
      have hi : i < a.size := by omega
      refine Ev.step (fun k => by unfold spec_l2Before.l0; rfl) (ev_pos (by omega) ?_)
      refine Ev.step (fun k => by unfold spec_l2Before.j1; rfl) ?_
      rw [List.drop_eq_getElem_cons (i := i) (l := bw a) (by rw [bw_size]; exact hi)]
      rcases Nat.lt_or_ge i b.size with h3 | h3
      · rw [List.drop_eq_getElem_cons (i := i) (l := bw b) (by rw [bw_size]; exact h3)]
        refine ev_pos (decide_eq_true (by omega)) (ev_pos (by omega) (ev_pos (by omega) (ev_pos (by omega) ?_)))
        rw [bt_bw hi, bt_bw h3]
        refine ev_ite (fun he => ?_) (fun hne => ?_)
        · rw [inc (by omega)]
          have he' := u8_inj he
          have e : decide ((bw a)[i]'(by rw [bw_size]; exact hi) :: (bw a).drop (i + 1) < (bw b)[i]'(by rw [bw_size]; exact h3) :: (bw b).drop (i + 1)) = decide ((bw a).drop (i + 1) < (bw b).drop (i + 1)) := by
            rw [decide_eq_decide, List.cons_lt_cons_iff, he']
            exact ⟨fun h => h.elim (fun h => absurd h (by rw [u8_lt]; omega)) (fun h => h.2), fun h => .inr ⟨rfl, h⟩⟩
          rw [e]
          exact ih (i + 1) (by omega) (by omega) (by omega)
        · refine ev_eq ?_
          rw [decide_eq_decide, List.cons_lt_cons_iff, u8_lt]
          exact ⟨fun h => .inl h, fun h => h.elim id (fun h => absurd (by rw [h.1]) hne)⟩
      · refine ev_neg (by rw [decide_eq_false (by omega)]; decide) (ev_eq ?_)
        rw [List.drop_of_length_le (l := bw b) (by rw [bw_size]; omega)]
        rw [decide_eq_decide]
        exact ⟨fun h => by omega, fun h => absurd h (List.not_lt_nil _)⟩
  have := key _ 0 rfl (Nat.zero_le _) (Nat.zero_le _)
  rw [List.drop_zero, List.drop_zero] at this
  exact this
/-! ### words -/
instance (w : Wd) : Decidable (okW w) := by unfold okW; exact inferInstance
theorem l2Word_ev (s : ByteArray) (hs : s.size ≤ 9223372036854775806) : Ev (fun k => spec_l2Word.f k s) (decide (okW (bw s))) := by
  have key : ∀ d i, 13 - i = d → i ≤ 13 → i ≤ s.size → Ev (fun k => spec_l2Word.l0 k s i) (decide ((bw s).length ≤ 12 ∧ ∀ b ∈ (bw s).drop i, 97 ≤ b.toNat ∧ b.toNat ≤ 122)) := by
    intro d
    induction d with
    | zero =>
      intro i hd h1 h2
      obtain rfl : i = 13 := by omega
      refine Ev.step (fun k => by unfold spec_l2Word.l0; rfl) ?_
      have fin : Ev (fun k => spec_l2Word.j1 k s ((13 : Nat) : Int) false) (decide ((bw s).length ≤ 12 ∧ ∀ b ∈ (bw s).drop 13, 97 ≤ b.toNat ∧ b.toNat ≤ 122)) := by
        refine Ev.step (fun k => by unfold spec_l2Word.j1; rfl) (ev_neg (by decide) (ev_eq ?_))
        rw [decide_eq_decide, bw_size]
        exact ⟨fun h => by omega, fun h => by omega⟩
      exact ev_ite (fun _ => by rw [decide_eq_false (by omega)]; exact fin) (fun _ => fin)
    | succ d ih =>
      intro i hd h1 h2
      refine Ev.step (fun k => by unfold spec_l2Word.l0; rfl) ?_
      rcases Nat.lt_or_ge i s.size with h3 | h3
      · refine ev_pos (by omega) ?_
        rw [decide_eq_true (show (i : Int) ≤ 12 by omega)]
        refine Ev.step (fun k => by unfold spec_l2Word.j1; rfl) (ev_pos rfl (ev_pos (by omega) (ev_pos (by omega) ?_)))
        rw [bt_bw h3]
        have e : (bw s).drop i = (bw s)[i]'(by rw [bw_size]; exact h3) :: (bw s).drop (i + 1) := List.drop_eq_getElem_cons (by rw [bw_size]; exact h3)
        refine ev_ite (fun hc => ev_eq ?_) (fun hc => ev_ite (fun hc2 => ev_eq ?_) (fun hc2 => ?_))
        · symm; rw [decide_eq_false_iff_not, e]; intro h; have := h.2 _ List.mem_cons_self; omega
        · symm; rw [decide_eq_false_iff_not, e]; intro h; have := h.2 _ List.mem_cons_self; omega
        · rw [inc (by omega)]
          have := ih (i + 1) (by omega) (by omega) (by omega)
          refine Eq.mp (congrArg _ ?_) this
          rw [decide_eq_decide, e]
          constructor
          · rintro ⟨h4, h5⟩
            refine ⟨h4, fun b hb => ?_⟩
            rcases List.mem_cons.1 hb with rfl | hb
            · omega
            · exact h5 b hb
          · rintro ⟨h4, h5⟩
            exact ⟨h4, fun b hb => h5 b (List.mem_cons_of_mem _ hb)⟩
      · refine ev_neg (by omega) ?_
        refine Ev.step (fun k => by unfold spec_l2Word.j1; rfl) (ev_neg (by decide) (ev_eq ?_))
        rw [decide_eq_decide, List.drop_of_length_le (by rw [bw_size]; omega), bw_size]
        exact ⟨fun h => ⟨by omega, by simp⟩, fun h => by omega⟩
  have := key _ 0 rfl (by omega) (Nat.zero_le _)
  rw [List.drop_zero] at this
  exact this
/-! ### a word put to its place -/
theorem l2Own_eq {l : List ByteArray} (h : l.length ≤ 1000000000) : spec_l2Own.f l = some l := by
  unfold spec_l2Own.f
  simp only [Option.bind_some, List.length_nil, List.nil_append]
  rw [if_pos (by omega)]
theorem l2Put_ev (l : List ByteArray) (w : ByteArray) (hl : l.length ≤ 4000000) (hs : ∀ x ∈ l, x.size ≤ 1000000000) (hw : w.size ≤ 1000000000) : Ev (fun k => spec_l2Put.f k l w) ((ins (l.map bw) (bw w)).map wb) := by
  have wbm : ∀ m : List ByteArray, (m.map bw).map wb = m := fun m => by rw [List.map_map]; exact (List.map_congr_left fun x _ => wb_bw x).trans (List.map_id m)
  have key : ∀ suf pre, l = pre ++ suf → Ev (fun k => spec_l2Put.l0 k l w pre.length) (pre ++ (ins (suf.map bw) (bw w)).map wb) := by
    intro suf
    induction suf with
    | nil =>
      intro pre he
      rw [List.append_nil] at he
      subst he
      refine Ev.step (fun k => by unfold spec_l2Put.l0; rfl) (ev_neg (by omega) (ev_pos (by omega) (ev_pos (by omega) ?_)))
      rw [Int.toNat_natCast, List.take_length, l2Own_eq (by omega)]
      refine ev_some (ev_some (ev_pos (by simp; omega) (ev_some (ev_some (ev_pos (by simp; omega) (ev_eq ?_))))))
      simp [ins, wb_bw]
    | cons x suf ih =>
      intro pre he
      have hlen : l.length = pre.length + (suf.length + 1) := by rw [he]; simp
      have hx : rdOf ByteArray.empty l (pre.length : Int) = x := by rw [rdOf_nat, he]; simp [List.getD]
      have hxm : x ∈ l := by rw [he]; simp
      have htake : l.take pre.length = pre := by rw [he]; simp
      have hdrop : l.drop pre.length = x :: suf := by rw [he]; simp
      have hb := l2Before_ev x w (by have := hs x hxm; omega) (by omega)
      refine Ev.step (fun k => by unfold spec_l2Put.l0; rfl) (ev_pos (by omega) (ev_pos (by omega) ?_))
      rw [hx]
      refine Ev.bind hb ?_
      rw [List.map_cons]
      unfold ins
      refine ev_ite (fun hc => ?_) (fun hc => ?_)
      · rw [if_pos (of_decide_eq_true hc), inc (by omega)]
        have := ih (pre ++ [x]) (by rw [he]; simp)
        rw [List.length_append, List.length_singleton] at this
        rw [List.map_cons, wb_bw]
        simpa using this
      · have hlt : ¬ bw x < bw w := fun h => hc (decide_eq_true h)
        rw [if_neg hlt]
        rw [toList_bw, toList_bw]
        refine ev_ite (fun hc2 => ?_) (fun hc2 => ?_)
        · rw [if_pos hc2]
          refine ev_eq ?_
          rw [List.map_cons, wb_bw, wbm, he]
        · rw [if_neg hc2]
          refine ev_pos (by omega) ?_
          rw [Int.toNat_natCast, htake, hdrop, l2Own_eq (by omega)]
          refine ev_some (ev_some (ev_pos (by simp; omega) (ev_some (ev_some (ev_pos (by simp; omega) (ev_eq ?_))))))
          rw [List.map_cons, List.map_cons, wb_bw, wb_bw, wbm]
          simp
  have := key l [] rfl
  rw [List.nil_append] at this
  exact this
/-! ### many words put to their places -/
theorem foldl_ins_SS {A : List Wd} (h : SS A) : ∀ l : List Wd, SS (l.foldl ins A)
  | [] => h
  | x :: l => by rw [List.foldl_cons]; exact foldl_ins_SS (ins_SS h x) l
theorem mem_foldl_ins : ∀ (l A : List Wd) (x : Wd), x ∈ l.foldl ins A ↔ x ∈ A ∨ x ∈ l
  | [], A, x => by simp
  | y :: l, A, x => by
    rw [List.foldl_cons, mem_foldl_ins l, mem_ins, List.mem_cons]
    constructor
    · rintro ((h | h) | h)
      · exact .inr (.inl h)
      · exact .inl h
      · exact .inr (.inr h)
    · rintro (h | h | h)
      · exact .inl (.inr h)
      · exact .inl (.inl h)
      · exact .inr h
theorem ins_length (l : List Wd) (w : Wd) : (ins l w).length ≤ l.length + 1 := by
  induction l with
  | nil => simp [ins]
  | cons x l ih =>
    unfold ins
    split
    · simp; omega
    · split <;> simp
theorem foldl_setW (l : List Wd) : l.foldl ins [] = setW l :=
  (foldl_ins_SS (by simp [SS]) l).ext (setW_SS l) (fun x => by rw [mem_foldl_ins, mem_setW]; simp)
theorem foldl_prefs (ws : List Wd) : (ws.flatMap inits).foldl ins [[]] = prefs ws :=
  (foldl_ins_SS (by simp [SS]) _).ext (prefs_SS ws) (fun x => by
    unfold prefs
    rw [mem_foldl_ins, mem_setW]
    simp)
theorem bw_map_wb (l : List Wd) : (l.map wb).map bw = l := by rw [List.map_map]; exact (List.map_congr_left fun x _ => bw_wb x).trans (List.map_id l)
/-- What the reference takes for the words of a list: themselves, sorted, each once, and whether all are words and not too many. -/
def refSet (ws : List Wd) : List Wd × Bool := if ∀ w ∈ ws, okW w then (setW ws, decide ((setW ws).length ≤ 40)) else ([], false)
theorem l2Set_ev (ws : List ByteArray) (hl : ws.length ≤ 2000000) (hs : ∀ x ∈ ws, x.size ≤ 1000000000) : Ev (fun k => spec_l2Set.f k ws) ((refSet (ws.map bw)).1.map wb, (refSet (ws.map bw)).2) := by
  have key : ∀ suf pre A, ws = pre ++ suf → A.length ≤ pre.length → (∀ x ∈ A, x.length ≤ 1000000000) → Ev (fun k => spec_l2Set.l0 k ws (A.map wb) pre.length)
      (if ∀ w ∈ suf.map bw, okW w then (((suf.map bw).foldl ins A).map wb, decide (((suf.map bw).foldl ins A).length ≤ 40)) else ([], false)) := by
    intro suf
    induction suf with
    | nil =>
      intro pre A he hA _
      rw [List.append_nil] at he
      subst he
      refine Ev.step (fun k => by unfold spec_l2Set.l0; rfl) (ev_neg (by omega) (ev_eq ?_))
      rw [if_pos (by simp)]
      simp
      omega
    | cons x suf ih =>
      intro pre A he hA hAs
      have hlen : ws.length = pre.length + (suf.length + 1) := by rw [he]; simp
      have hx : rdOf ByteArray.empty ws (pre.length : Int) = x := by rw [rdOf_nat, he]; simp [List.getD]
      have hxm : x ∈ ws := by rw [he]; simp
      refine Ev.step (fun k => by unfold spec_l2Set.l0; rfl) (ev_pos (by omega) (ev_pos (by omega) ?_))
      rw [hx]
      refine Ev.bind (l2Word_ev x (by have := hs x hxm; omega)) ?_
      refine ev_ite (fun hc => ?_) (fun hc => ?_)
      · have hp := l2Put_ev (A.map wb) x (by simp; omega) (fun y hy => by
          obtain ⟨z, hz, rfl⟩ := List.mem_map.1 hy
          rw [wb_size]; exact hAs z hz) (hs x hxm)
        rw [bw_map_wb] at hp
        refine Ev.bind hp ?_
        rw [inc (by omega)]
        have := ih (pre ++ [x]) (ins A (bw x)) (by rw [he]; simp) (by have := ins_length A (bw x); simp; omega) (fun y hy => by
          rcases (mem_ins A (bw x) y).1 hy with rfl | hy
          · rw [bw_size]; exact hs x hxm
          · exact hAs y hy)
        rw [List.length_append, List.length_singleton] at this
        refine Eq.mp (congrArg _ ?_) this
        have hx' : okW (bw x) := of_decide_eq_true hc
        rw [List.map_cons, List.foldl_cons]
        by_cases hall : ∀ w ∈ suf.map bw, okW w
        · rw [if_pos hall, if_pos (fun w hw => by
            rcases List.mem_cons.1 hw with rfl | hw
            · exact hx'
            · exact hall w hw)]
        · rw [if_neg hall, if_neg (fun h => hall fun w hw => h w (List.mem_cons_of_mem _ hw))]
      · refine ev_eq ?_
        rw [if_neg (fun h => hc (decide_eq_true (h (bw x) (by rw [List.map_cons]; exact List.mem_cons_self))))]
  have := key ws [] [] rfl (Nat.le_refl _) (by simp)
  unfold refSet
  rw [foldl_setW] at this
  refine Eq.mp (congrArg _ ?_) this
  split <;> rfl
end Go.Proofs.YtcplbbflfgckbabGreatDoor.Pl
/- Plain: the reference's tries: prefixes, words, validity. -/
namespace Go.Proofs.YtcplbbflfgckbabGreatDoor.Pl
open Go.RowKit Go.Ab.Pw Go.Proofs.YtcplbbflfgckbabGreatDoorW.PrintWords Go.Proofs.YtcplbbflfgckbabGreatDoorW.PrintLast Go.Proofs.YtcplbbflfgckbabGreatDoorW.PrintMore Go.Proofs.YtcplbbflfgckbabGreatDoor.X

theorem rd_nd {t : List ND} {i : Nat} (h : i < t.length) : rd_T65 t (i : Int) = t[i] := by
  show t.getD (i : Int).toNat _ = _
  rw [Int.toNat_natCast, List.getD_eq_getElem?_getD, List.getElem?_eq_getElem h, Option.getD_some]
theorem letter_str {c : Int} (h1 : 0 ≤ c) (h2 : c ≤ 25) : strOfNums [(wrap64 (97 + c)) % 256] = wb [letterB c] := by
  unfold strOfNums wb letterB
  rw [w64 (by omega) (by omega), Int.emod_eq_of_lt (by omega) (by omega)]
  simp only [List.map_cons, List.map_nil]
  rw [show (97 + c).toNat = 97 + c.toNat by omega]
theorem strOfNums_size1 (x : Int) : (strOfNums [x]).size = 1 := rfl
theorem wb_append (a b : Wd) : wb a ++ wb b = wb (a ++ b) := bw_inj (by simp [bw, wb, ByteArray.data_append])
theorem bw_append (a b : ByteArray) : bw (a ++ b) = bw a ++ bw b := by simp [bw, ByteArray.data_append]
theorem l2Prefix_loop (t : List ND) (ht : t.length ≤ 2000000) : ∀ i, i < t.length → ∀ s : ByteArray, s.size ≤ 13 → ∃ r, Ev (fun k => spec_l2Prefix.l0 k i s t) r ∧ r.size ≤ 13 ∧ ∀ P, prefP t = some P → (P.getD i []).length + s.size ≤ 12 → r = wb (P.getD i [] ++ bw s) := by
  have atZero : ∀ s : ByteArray, s.size ≤ 13 → Ev (fun k => spec_l2Prefix.l0 k ((0 : Nat) : Int) s t) s := by
    intro s hs
    refine Ev.step (fun k => by unfold spec_l2Prefix.l0; rfl) (ev_neg (by omega) ?_)
    exact Ev.step (fun k => by unfold spec_l2Prefix.j1; rfl) (ev_neg (by decide) (ev_pos (by omega) (ev_eq rfl)))
  intro i
  induction i using Nat.strongRecOn with
  | _ i ih =>
    intro hi s hs
    rcases Nat.eq_zero_or_pos i with rfl | h0
    · refine ⟨s, atZero s hs, hs, fun P hP _ => ?_⟩
      rw [(prefP_spec hP).2.2.2.1, List.nil_append, wb_bw]
    · have one : ∀ r : ByteArray, (⟨#[63]⟩ : ByteArray) = r → r.size ≤ 13 := fun r h => by rw [← h]; decide
      by_cases hs2 : s.size ≤ 12
      case neg =>
        refine ⟨⟨#[63]⟩, ?_, by decide, fun P _ hz => by omega⟩
        refine Ev.step (fun k => by unfold spec_l2Prefix.l0; rfl) (ev_pos (by omega) ?_)
        rw [decide_eq_false (by omega)]
        exact Ev.step (fun k => by unfold spec_l2Prefix.j1; rfl) (ev_neg (by decide) (ev_neg (by omega) (ev_eq rfl)))
      have begin_ : ∀ (r : ByteArray), Ev (fun k => if decide (0 ≤ t[i].f0 ∧ t[i].f0 ≤ 25) = true then (if (t[i].f1) ≥ (i : Int) then (some (⟨#[63]⟩ : ByteArray)) else ((some (([(wrap64 (97 + (t[i].f0))) % 256] : List Int) : List Int)).bind fun y107 => (if (strOfNums y107).size + s.size ≤ 9223372036854775807 then (spec_l2Prefix.l0 k (t[i].f1) ((strOfNums y107) ++ s) t) else (none)))) else (some (⟨#[63]⟩ : ByteArray))) r → Ev (fun k => spec_l2Prefix.l0 k i s t) r := by
        intro r hr
        refine Ev.step (fun k => by unfold spec_l2Prefix.l0; rfl) (ev_pos (by omega) ?_)
        rw [decide_eq_true (show (s.size : Int) ≤ 12 by omega)]
        refine Ev.step (fun k => by unfold spec_l2Prefix.j1; rfl) (ev_pos rfl (ev_pos (by omega) (ev_pos (by omega) ?_)))
        rw [rd_nd hi, l1In_eq]
        exact ev_some hr
      by_cases hf : 0 ≤ t[i].f0 ∧ t[i].f0 ≤ 25
      case neg =>
        refine ⟨⟨#[63]⟩, begin_ _ (ev_neg (by simpa using hf) (ev_eq rfl)), by decide, fun P hP _ => ?_⟩
        have := (prefP_spec hP).2.2.2.2 i h0 hi
        exact absurd ⟨this.2.2.1, this.2.2.2.1⟩ hf
      by_cases hp : t[i].f1 < (i : Int)
      case neg =>
        refine ⟨⟨#[63]⟩, begin_ _ (ev_pos (decide_eq_true hf) (ev_pos (by omega) (ev_eq rfl))), by decide, fun P hP _ => ?_⟩
        have := (prefP_spec hP).2.2.2.2 i h0 hi
        exact absurd this.2.1 hp
      have hls := letter_str hf.1 hf.2
      have hz : (wb [letterB t[i].f0] ++ s).size ≤ 13 := by rw [ByteArray.size_append, wb_size]; simp; omega
      by_cases hn : 0 ≤ t[i].f1
      case neg =>
        refine ⟨⟨#[63]⟩, begin_ _ (ev_pos (decide_eq_true hf) (ev_neg (by omega) (ev_some ?_))), by decide, fun P hP _ => ?_⟩
        · rw [hls]
          refine ev_pos (by rw [wb_size]; simp; omega) ?_
          refine Ev.step (fun k => by unfold spec_l2Prefix.l0; rfl) (ev_neg (by omega) ?_)
          exact Ev.step (fun k => by unfold spec_l2Prefix.j1; rfl) (ev_neg (by decide) (ev_neg (by omega) (ev_eq rfl)))
        · have := (prefP_spec hP).2.2.2.2 i h0 hi
          exact absurd this.1 hn
      obtain ⟨r, hr, hr2, hr3⟩ := ih t[i].f1.toNat (by omega) (by omega) (wb [letterB t[i].f0] ++ s) hz
      refine ⟨r, begin_ _ (ev_pos (decide_eq_true hf) (ev_neg (by omega) (ev_some ?_))), hr2, fun P hP hlen => ?_⟩
      · rw [hls]
        refine ev_pos (by rw [wb_size]; simp; omega) ?_
        rw [show ((t[i].f1.toNat : Nat) : Int) = t[i].f1 by omega] at hr
        exact hr
      · have := (prefP_spec hP).2.2.2.2 i h0 hi
        rw [this.2.2.2.2] at hlen ⊢
        rw [hr3 P hP (by rw [List.length_append, List.length_singleton] at hlen; rw [ByteArray.size_append, wb_size, List.length_singleton]; omega)]
        rw [bw_append, bw_wb, List.append_assoc]
theorem l2Prefix_ev (t : List ND) (ht : t.length ≤ 2000000) (i : Nat) (hi : i < t.length) : ∃ r, Ev (fun k => spec_l2Prefix.f k t i) r ∧ r.size ≤ 13 ∧ ∀ P, TOk t P → r = wb (P.getD i []) := by
  obtain ⟨r, h1, h2, h3⟩ := l2Prefix_loop t ht i hi ⟨#[]⟩ (by decide)
  refine ⟨r, h1, h2, fun P hP => ?_⟩
  have hl := (prefP_spec hP.pre).2.2.1
  have := hP.short _ (getD_mem (l := P) (i := i) (by omega) [])
  rw [h3 P hP.pre (by show _ + 0 ≤ 12; omega)]
  show wb (P.getD i [] ++ []) = _
  rw [List.append_nil]
theorem l2Prefix_ok {t : List ND} {P : List Wd} (h : TOk t P) (i : Nat) (hi : i < t.length) : Ev (fun k => spec_l2Prefix.f k t i) (wb (P.getD i [])) := by
  obtain ⟨r, h1, _, h3⟩ := l2Prefix_ev t (by have := (prefP_spec h.pre).2.1; omega) i hi
  rwa [h3 P h] at h1
theorem l2Words_ev (t : List ND) (ht : t.length ≤ 100000) : ∃ ws, Ev (fun k => spec_l2Words.f k t) ws ∧ ws.length ≤ t.length ∧ (∀ w ∈ ws, w.size ≤ 13) ∧ ∀ P, TOk t P → ws = (wordsP t P).map wb := by
  have hR : ∃ R : Nat → ByteArray, ∀ i, i < t.length → Ev (fun k => spec_l2Prefix.f k t i) (R i) ∧ (R i).size ≤ 13 ∧ ∀ P, TOk t P → R i = wb (P.getD i []) := by
    have : ∀ i, ∃ r : ByteArray, i < t.length → Ev (fun k => spec_l2Prefix.f k t i) r ∧ r.size ≤ 13 ∧ ∀ P, TOk t P → r = wb (P.getD i []) := fun i => by
      by_cases h : i < t.length
      · obtain ⟨r, h1⟩ := l2Prefix_ev t (by omega) i h
        exact ⟨r, fun _ => h1⟩
      · exact ⟨⟨#[]⟩, fun h2 => absurd h2 h⟩
    exact ⟨fun i => Classical.choose (this i), fun i => Classical.choose_spec (this i)⟩
  obtain ⟨R, hR⟩ := hR
  refine ⟨((List.range t.length).filter fun i => (t.getD i zND).f2).map R, ?_, ?_, ?_, ?_⟩
  · have key : ∀ d i, t.length - i = d → i ≤ t.length → ∀ acc : List ByteArray, acc.length ≤ i → Ev (fun k => spec_l2Words.l0 k acc i t) (acc ++ (((List.range t.length).drop i).filter fun i => (t.getD i zND).f2).map R) := by
      intro d
      induction d with
      | zero =>
        intro i hd hi acc ha
        refine Ev.step (fun k => by unfold spec_l2Words.l0; rfl) (ev_neg (by omega) (ev_eq ?_))
        rw [List.drop_of_length_le (by simp; omega)]
        simp
      | succ d ih =>
        intro i hd hi acc ha
        have hi' : i < t.length := by omega
        refine Ev.step (fun k => by unfold spec_l2Words.l0; rfl) (ev_pos (by omega) (ev_pos (by omega) ?_))
        have e : (List.range t.length).drop i = i :: (List.range t.length).drop (i + 1) := by
          rw [List.drop_eq_getElem_cons (by simpa using hi')]; simp
        have eg : (t.getD i zND).f2 = t[i].f2 := by rw [List.getD_eq_getElem?_getD, List.getElem?_eq_getElem hi', Option.getD_some]
        rw [rd_nd hi', e, List.filter_cons, eg]
        refine ev_ite (fun hc => ?_) (fun hc => ?_)
        · refine Ev.bind (hR i hi').1 (ev_pos (by omega) ?_)
          rw [inc (by omega), if_pos hc]
          have := ih (i + 1) (by omega) (by omega) (acc ++ [R i]) (by simp; omega)
          simpa using this
        · rw [inc (by omega), if_neg hc]
          exact ih (i + 1) (by omega) (by omega) acc (by omega)
    have := key _ 0 rfl (Nat.zero_le _) [] (Nat.le_refl _)
    rw [List.nil_append, List.drop_zero] at this
    exact this
  · rw [List.length_map]
    exact Nat.le_trans (List.length_filter_le _ _) (by simp)
  · intro w hw
    obtain ⟨i, hi, rfl⟩ := List.mem_map.1 hw
    exact (hR i (List.mem_range.1 (List.mem_filter.1 hi).1)).2.1
  · intro P hP
    unfold wordsP
    rw [List.map_map]
    exact List.map_congr_left fun i hi => (hR i (List.mem_range.1 (List.mem_filter.1 hi).1)).2.2 P hP
/-! ### the trie of words -/
theorem mem_map_bw {l : List ByteArray} {x : ByteArray} : bw x ∈ l.map bw ↔ x ∈ l := by
  rw [List.mem_map]
  exact ⟨fun ⟨y, hy, h⟩ => bw_inj h ▸ hy, fun h => ⟨x, h, rfl⟩⟩
theorem l2Has_ev (l : List ByteArray) (x : ByteArray) (hl : l.length ≤ 4000000) : Ev (fun k => spec_l2Has.f k l x) (decide (bw x ∈ l.map bw)) := by
  have key : ∀ suf pre, l = pre ++ suf → Ev (fun k => spec_l2Has.l0 k l x pre.length) (decide (bw x ∈ suf.map bw)) := by
    intro suf
    induction suf with
    | nil =>
      intro pre he
      rw [List.append_nil] at he
      subst he
      exact Ev.step (fun k => by unfold spec_l2Has.l0; rfl) (ev_neg (by omega) (ev_eq (by simp)))
    | cons y suf ih =>
      intro pre he
      have hlen : l.length = pre.length + (suf.length + 1) := by rw [he]; simp
      have hx : rdOf ByteArray.empty l (pre.length : Int) = y := by rw [rdOf_nat, he]; simp [List.getD]
      refine Ev.step (fun k => by unfold spec_l2Has.l0; rfl) (ev_pos (by omega) (ev_pos (by omega) ?_))
      rw [hx, toList_bw, toList_bw]
      refine ev_ite (fun hc => ev_eq ?_) (fun hc => ?_)
      · symm; rw [decide_eq_true_eq, List.map_cons, hc]; exact List.mem_cons_self
      · rw [inc (by omega)]
        have := ih (pre ++ [y]) (by rw [he]; simp)
        rw [List.length_append, List.length_singleton] at this
        refine Eq.mp (congrArg _ ?_) this
        rw [decide_eq_decide, List.map_cons, List.mem_cons]
        exact ⟨.inr, fun h => h.elim (fun h => absurd h.symm hc) id⟩
  exact key l [] rfl
theorem l2Place_ev (l : List ByteArray) (x : ByteArray) (hl : l.length ≤ 1000000) (hx : bw x ∈ l.map bw) : Ev (fun k => spec_l2Place.f k l x) (((l.map bw).idxOf (bw x) : Nat) : Int) := by
  have key : ∀ suf pre, l = pre ++ suf → bw x ∈ suf.map bw → Ev (fun k => spec_l2Place.l0 k l x pre.length) ((pre.length + (suf.map bw).idxOf (bw x) : Nat) : Int) := by
    intro suf
    induction suf with
    | nil => intro pre _ h; simp at h
    | cons y suf ih =>
      intro pre he hm
      have hlen : l.length = pre.length + (suf.length + 1) := by rw [he]; simp
      have hy : rdOf ByteArray.empty l (pre.length : Int) = y := by rw [rdOf_nat, he]; simp [List.getD]
      refine Ev.step (fun k => by unfold spec_l2Place.l0; rfl) (ev_pos (by omega) (ev_pos (by omega) ?_))
      rw [hy, toList_bw, toList_bw, List.map_cons, List.idxOf_cons]
      refine ev_ite (fun hc => ev_eq ?_) (fun hc => ?_)
      · rw [hc]; simp
      · rw [inc (by omega)]
        have hne : (bw y == bw x) = false := by simpa using hc
        rw [hne]
        have := ih (pre ++ [y]) (by rw [he]; simp) (by
          rw [List.map_cons, List.mem_cons] at hm
          exact hm.elim (fun h => absurd h.symm hc) id)
        rw [List.length_append, List.length_singleton] at this
        refine Eq.mp (congrArg _ ?_) this
        simp only [cond_false]
        omega
  have := key l [] rfl hx
  rw [List.length_nil, Nat.zero_add] at this
  exact this
theorem extract_wb (w : Wd) (n : Nat) : (wb w).extract 0 n = wb (w.take n) := bw_inj (by
  show ((wb w).extract 0 n).data.toList = _
  rw [Lib.extract_data, bw_wb]; simp [wb])
theorem last_ltr {w : Wd} (h : w ≠ []) : (bt (wb w) ((w.length - 1 : Nat) : Int) - 97) % 256 = ltr w := by
  have hl := List.length_pos_iff.2 h
  rw [bt_bw (by rw [wb_size]; omega)]
  unfold ltr
  rw [List.getLast?_eq_getElem?]
  have e : (bw (wb w))[w.length - 1]'(by rw [bw_wb]; omega) = w[w.length - 1] := by simp only [bw_wb]
  rw [e, List.getElem?_eq_getElem (by omega), Option.getD_some]
end Go.Proofs.YtcplbbflfgckbabGreatDoor.Pl
/- Plain: the reference's trie of words, and when it takes a trie for valid. -/
namespace Go.Proofs.YtcplbbflfgckbabGreatDoor.Pl
open Go.RowKit Go.Ab.Pw Go.Proofs.YtcplbbflfgckbabGreatDoorW.PrintWords Go.Proofs.YtcplbbflfgckbabGreatDoorW.PrintLast Go.Proofs.YtcplbbflfgckbabGreatDoorW.PrintMore Go.Proofs.YtcplbbflfgckbabGreatDoor.X

theorem rdOf_map_wb (ps : List Wd) (i : Nat) (h : i < ps.length) : rdOf ByteArray.empty (ps.map wb) (i : Int) = wb ps[i] := by
  rw [rdOf_nat, List.getD_eq_getElem?_getD, List.getElem?_map, List.getElem?_eq_getElem h]; rfl
/-- The nodes put together one by one. -/
theorem l2Of_nodes (ws : List Wd) (hw : ws.length ≤ 100000) (hl : (prefs ws).length ≤ 100000) (hs : ∀ p ∈ prefs ws, p.length ≤ 1000000) : Ev (fun k => spec_l2Of.l2 k (ws.map wb) ((prefs ws).map wb) 0 []) (trie ws) := by
  have key : ∀ d i, (prefs ws).length - i = d → i ≤ (prefs ws).length → Ev (fun k => spec_l2Of.l2 k (ws.map wb) ((prefs ws).map wb) i ((trie ws).take i)) (trie ws) := by
    intro d
    induction d with
    | zero =>
      intro i hd hi
      refine Ev.step (fun k => by unfold spec_l2Of.l2; rfl) (ev_neg (by rw [List.length_map]; omega) (ev_eq ?_))
      rw [List.take_of_length_le (by rw [trie_length]; omega)]
    | succ d ih =>
      intro i hd hi
      have hi' : i < (prefs ws).length := by omega
      have hi2 : i < (trie ws).length := by rw [trie_length]; exact hi'
      have hmem := List.getElem_mem hi'
      have htk : ((trie ws).take i).length = i := by rw [List.length_take]; omega
      have hn : (trie ws)[i] = nodeOf ws (prefs ws) (prefs ws)[i] := by simp [trie]
      have hnext : ∀ nd : ND, nd = (trie ws)[i] → Ev (fun k => spec_l2Of.l2 k (ws.map wb) ((prefs ws).map wb) ((i + 1 : Nat) : Int) ((trie ws).take i ++ [nd])) (trie ws) := by
        rintro nd rfl
        rw [← List.take_succ_eq_append_getElem hi2]
        exact ih (i + 1) (by omega) (by omega)
      refine Ev.step (fun k => by unfold spec_l2Of.l2; rfl) (ev_pos (by rw [List.length_map]; omega) (ev_pos (by omega) ?_))
      rw [rdOf_map_wb _ _ hi']
      refine Ev.bind (l2Has_ev (ws.map wb) _ (by rw [List.length_map]; omega)) ?_
      rw [bw_map_wb, bw_wb, inc (by omega)]
      rcases Nat.eq_zero_or_pos i with h0 | h0
      · subst h0
        refine ev_neg (by omega) (ev_pos (by rw [htk]; omega) (hnext _ ?_))
        obtain ⟨l, e⟩ := prefs_head ws
        have e0 : (prefs ws)[0] = [] := by simp only [e, List.getElem_cons_zero]
        rw [hn, e0]
        unfold nodeOf
        rw [if_pos rfl]
      · have hne : (prefs ws)[i] ≠ [] := by
          intro e
          have h1 : (prefs ws)[0]'(by omega) < (prefs ws)[i] := List.pairwise_iff_getElem.1 (prefs_SS ws) 0 i (by omega) hi' h0
          rw [e] at h1
          exact List.not_lt_nil _ h1
        have hlp := List.length_pos_iff.2 hne
        have hsz := hs _ hmem
        have e1 : wrap64 (((wb (prefs ws)[i]).size : Int) - 1) = (((prefs ws)[i].length - 1 : Nat) : Int) := by
          rw [wb_size, w64 (by omega) (by omega)]; omega
        refine ev_pos (by omega) ?_
        rw [e1]
        refine ev_pos (by omega) (ev_pos (by rw [wb_size]; omega) (ev_pos (by rw [wb_size]; omega) ?_))
        rw [Int.toNat_natCast, extract_wb, ← List.dropLast_eq_take, last_ltr hne]
        refine Ev.bind (l2Place_ev ((prefs ws).map wb) (wb (prefs ws)[i].dropLast) (by rw [List.length_map]; omega) (by rw [bw_map_wb, bw_wb]; exact dropLast_mem hmem)) ?_
        refine ev_pos (by rw [htk]; omega) (hnext _ ?_)
        rw [hn, bw_map_wb, bw_wb]
        unfold nodeOf
        rw [if_neg hne]
  have := key _ 0 rfl (Nat.zero_le _)
  rw [List.take_zero] at this
  exact this
theorem inits_take (w : Wd) (n : Nat) : (inits w).take n = (inits w).take n := rfl
theorem inits_get (w : Wd) (n : Nat) (h : n < w.length) : (inits w).drop n = w.take (n + 1) :: (inits w).drop (n + 1) := by
  have hl : n < (inits w).length := by simpa [inits] using h
  rw [List.drop_eq_getElem_cons hl]
  congr 1
  simp [inits]
theorem inits_end (w : Wd) : (inits w).drop w.length = [] := by rw [List.drop_eq_nil_iff]; simp [inits]
theorem l2Of_ev (ws : List Wd) (hw : ws.length ≤ 100) (hs : ∀ w ∈ ws, w.length ≤ 100) : Ev (fun k => spec_l2Of.f k (ws.map wb)) (trie ws) := by
  have hpl := prefs_length (ws := ws) (m := 100) hs
  have hps : ∀ p ∈ prefs ws, p.length ≤ 100 := fun p hp => by
    rcases (mem_prefs ws p).1 hp with rfl | ⟨w, hw, hpw⟩
    · simp
    · exact Nat.le_trans hpw.length_le (hs w hw)
  have hnodes := l2Of_nodes ws (by omega) (by omega) (fun p hp => by have := hps p hp; omega)
  have inner : ∀ (i : Nat) (hi : i < ws.length) (R : List ND) (d n : Nat) (A : List Wd), ws[i].length - n = d → n ≤ ws[i].length → A.length ≤ 1 + 100 * i + n → (∀ x ∈ A, x.length ≤ 100) →
      ((((inits ws[i]).drop n).foldl ins A).length ≤ 1 + 100 * (i + 1) → (∀ x ∈ ((inits ws[i]).drop n).foldl ins A, x.length ≤ 100) → Ev (fun k => spec_l2Of.l0 k (ws.map wb) ((((inits ws[i]).drop n).foldl ins A).map wb) ((i + 1 : Nat) : Int)) R) → Ev (fun k => spec_l2Of.l1 k (ws.map wb) (A.map wb) i ((n + 1 : Nat) : Int)) R := by
    intro i hi R d
    have hwl := hs _ (List.getElem_mem hi)
    induction d with
    | zero =>
      intro n A hd hn hA hAs hnext
      obtain rfl : n = ws[i].length := by omega
      refine Ev.step (fun k => by unfold spec_l2Of.l1; rfl) (ev_pos (by omega) (ev_pos (by rw [List.length_map]; omega) ?_))
      rw [rdOf_map_wb _ _ hi]
      refine ev_neg (by rw [wb_size]; omega) ?_
      rw [inc (by omega)]
      rw [inits_end] at hnext
      exact hnext (by simp only [List.foldl_nil]; omega) hAs
    | succ d ih =>
      intro n A hd hn hA hAs hnext
      have hn' : n < ws[i].length := by omega
      refine Ev.step (fun k => by unfold spec_l2Of.l1; rfl) (ev_pos (by omega) (ev_pos (by rw [List.length_map]; omega) ?_))
      rw [rdOf_map_wb _ _ hi]
      refine ev_pos (by rw [wb_size]; omega) (ev_pos (by omega) ?_)
      rw [Int.toNat_natCast, extract_wb]
      have hp := l2Put_ev (A.map wb) (wb (ws[i].take (n + 1))) (by rw [List.length_map]; omega) (fun y hy => by
          obtain ⟨z, hz, rfl⟩ := List.mem_map.1 hy
          rw [wb_size]; have := hAs z hz; omega) (by rw [wb_size, List.length_take]; omega)
      rw [bw_map_wb, bw_wb] at hp
      refine Ev.bind hp ?_
      rw [inc (by omega)]
      have hil := ins_length A (ws[i].take (n + 1))
      refine ih (n + 1) _ (by omega) (by omega) (by omega) (fun x hx => ?_) (fun h1 h2 => ?_)
      · rcases (mem_ins A _ x).1 hx with rfl | hx
        · rw [List.length_take]; omega
        · exact hAs x hx
      · have e : ((inits ws[i]).drop n).foldl ins A = ((inits ws[i]).drop (n + 1)).foldl ins (ins A (ws[i].take (n + 1))) := by
          rw [inits_get _ _ hn', List.foldl_cons]
        rw [e] at hnext
        exact hnext h1 h2
  have outer : ∀ d i (A : List Wd), ws.length - i = d → i ≤ ws.length → A.length ≤ 1 + 100 * i → (∀ x ∈ A, x.length ≤ 100) → ((ws.drop i).flatMap inits).foldl ins A = prefs ws → Ev (fun k => spec_l2Of.l0 k (ws.map wb) (A.map wb) i) (trie ws) := by
    intro d
    induction d with
    | zero =>
      intro i A hd hi hA hAs he
      refine Ev.step (fun k => by unfold spec_l2Of.l0; rfl) (ev_neg (by rw [List.length_map]; omega) ?_)
      rw [List.drop_of_length_le (by omega)] at he
      simp only [List.flatMap_nil, List.foldl_nil] at he
      rw [he]
      exact hnodes
    | succ d ih =>
      intro i A hd hi hA hAs he
      have hi' : i < ws.length := by omega
      refine Ev.step (fun k => by unfold spec_l2Of.l0; rfl) (ev_pos (by rw [List.length_map]; omega) ?_)
      have h0 := inner i hi' (trie ws) ws[i].length 0 A (by omega) (Nat.zero_le _) (by omega) hAs (fun h1 h2 => ?_)
      · exact h0
      · rw [List.drop_zero] at h1 h2 ⊢
        refine ih (i + 1) _ (by omega) (by omega) h1 h2 ?_
        rw [List.drop_eq_getElem_cons hi', List.flatMap_cons, List.foldl_append] at he
        exact he
  have := outer _ 0 [[]] rfl (Nat.zero_le _) (by simp) (by simp) (by rw [List.drop_zero]; exact foldl_prefs ws)
  exact this
theorem l2Same_ev (a b : List ND) (ha : a.length ≤ 2000000) (hb : b.length ≤ 2000000) : Ev (fun k => spec_l2Same.f k a b) (decide (a = b)) := by
  have fin : ∀ i : Nat, (a.length ≤ i ∨ b.length ≤ i) → i ≤ a.length → i ≤ b.length → (a.take i = b.take i) → Ev (fun k => spec_l2Same.j1 k (i : Int) false a b) (decide (a = b)) := by
    intro i h h1 h2 ht
    refine Ev.step (fun k => by unfold spec_l2Same.j1; rfl) (ev_neg (by decide) (ev_eq ?_))
    rw [Bool.eq_iff_iff, beq_iff_eq, decide_eq_true_eq]
    constructor
    · intro he
      have he' : a.length = b.length := by omega
      rw [List.take_of_length_le (by omega), List.take_of_length_le (by omega)] at ht
      exact ht
    · rintro rfl; rfl
  have key : ∀ d i, a.length - i = d → i ≤ a.length → i ≤ b.length → a.take i = b.take i → Ev (fun k => spec_l2Same.l0 k (i : Int) a b) (decide (a = b)) := by
    intro d
    induction d with
    | zero =>
      intro i hd h1 h2 ht
      exact Ev.step (fun k => by unfold spec_l2Same.l0; rfl) (ev_neg (by omega) (fin i (by omega) h1 h2 ht))
    | succ d ih =>
      intro i hd h1 h2 ht
      have hia : i < a.length := by omega
      refine Ev.step (fun k => by unfold spec_l2Same.l0; rfl) (ev_pos (by omega) ?_)
      by_cases hib : i < b.length
      · rw [decide_eq_true (show (i : Int) < (b.length : Int) by omega)]
        refine Ev.step (fun k => by unfold spec_l2Same.j1; rfl) (ev_pos rfl (ev_pos (by omega) (ev_pos (by omega) (ev_pos (by omega) ?_))))
        rw [rd_nd hia, rd_nd hib]
        by_cases hc : a[i] = b[i]
        · refine ev_neg (by rw [hc]; simp) ?_
          rw [inc (by omega)]
          refine ih (i + 1) (by omega) (by omega) (by omega) ?_
          rw [List.take_succ_eq_append_getElem hia, List.take_succ_eq_append_getElem hib, ht, hc]
        · refine ev_pos ?_ (ev_eq ?_)
          · by_cases h1 : a[i].f0 = b[i].f0
            · by_cases h2 : a[i].f1 = b[i].f1
              · by_cases h3 : a[i].f2 = b[i].f2
                · exact absurd (show a[i] = b[i] from Prod.ext h1 (Prod.ext h2 h3)) hc
                · simp [h3]
              · simp [h2]
            · simp [h1]
          · symm; rw [decide_eq_false_iff_not]; rintro rfl; exact hc rfl
      · rw [decide_eq_false (by omega)]
        exact fin i (by omega) h1 h2 ht
  exact key _ 0 rfl (Nat.zero_le _) (Nat.zero_le _) rfl
theorem l2Trie_ev (t : List ND) (ht : t.length ≤ 2000000) : Ev (fun k => spec_l2Trie.f k t) (isT t) := by
  unfold spec_l2Trie.f
  rw [l1In_eq]
  refine ev_some (ev_ite (fun hc => ?_) (fun hc => ev_eq ?_))
  · have hl := of_decide_eq_true hc
    obtain ⟨ws, h1, h2, h3, h4⟩ := l2Words_ev t (by omega)
    refine Ev.bind h1 ?_
    refine Ev.bind (l2Set_ev ws (by omega) (fun x hx => by have := h3 x hx; omega)) ?_
    have href := isT_ref t (by omega) (ws.map bw) (fun P hP => by rw [h4 P hP, bw_map_wb])
    unfold refSet
    by_cases hall : ∀ w ∈ ws.map bw, okW w
    · rw [if_pos hall]
      refine ev_ite (fun hc2 => ?_) (fun hc2 => ev_eq ?_)
      · have hl2 : (setW (ws.map bw)).length ≤ 40 := of_decide_eq_true hc2
        refine Ev.bind (l2Of_ev (setW (ws.map bw)) (by omega) (fun w hw => ?_)) ?_
        · have := (hall w ((mem_setW _ w).1 hw)).1; omega
        · have hb := trie_bound (ws := setW (ws.map bw)) (fun w hw => hall w ((mem_setW _ w).1 hw)) hl2
          refine Ev.bind (l2Same_ev _ t (by omega) ht) (ev_eq ?_)
          rw [Bool.eq_iff_iff, isT_iff, href, decide_eq_true_eq]
          exact ⟨fun h => ⟨hall, hl2, h⟩, fun h => h.2.2⟩
      · symm; rw [Bool.eq_false_iff, Ne, isT_iff, href]
        exact fun h => hc2 (decide_eq_true h.2.1)
    · rw [if_neg hall]
      refine ev_neg (by decide) (ev_eq ?_)
      symm; rw [Bool.eq_false_iff, Ne, isT_iff, href]
      exact fun h => hall h.1
  · symm; rw [Bool.eq_false_iff, Ne, isT_iff]
    rintro ⟨ws, h1, h2, h3, rfl⟩
    have := trie_bound h2 h3
    exact hc (decide_eq_true (by omega))
end Go.Proofs.YtcplbbflfgckbabGreatDoor.Pl
/- Plain: the program's tries: what each function answers. -/
namespace Go.Proofs.YtcplbbflfgckbabGreatDoor.Pl
open Go.RowKit Go.Ab.Pw Go.Proofs.YtcplbbflfgckbabGreatDoorW.PrintWords Go.Proofs.YtcplbbflfgckbabGreatDoorW.PrintLast Go.Proofs.YtcplbbflfgckbabGreatDoorW.PrintMore Go.Proofs.YtcplbbflfgckbabGreatDoor.X

theorem in_eq (a b c : Int) : impl_in.f a b c = some (decide (b ≤ a ∧ a ≤ c)) := by
  unfold impl_in.f
  by_cases h : a ≥ b
  · rw [if_pos h]; congr 1; rw [decide_eq_decide]; exact ⟨fun h2 => ⟨h, h2⟩, fun h2 => h2.2⟩
  · rw [if_neg h]; congr 1; symm; rw [decide_eq_false_iff_not]; exact fun h2 => h h2.1
/-! ### prefixes and words -/
theorem getD_wb (ps : List Wd) (i : Nat) (h : i < ps.length) : rdOf ByteArray.empty (ps.map wb) (i : Int) = wb (ps.getD i []) := by
  rw [rdOf_map_wb ps i h, List.getD_eq_getElem?_getD, List.getElem?_eq_getElem h, Option.getD_some]
theorem prefixes_ev (t : List ND) (ht : t.length ≤ 2000000) : Ev (fun k => impl_Trie_prefixes.f k t) (match prefP t with | some P => (P.map wb, true) | none => ([], false)) := by
  unfold impl_Trie_prefixes.f
  rw [in_eq]
  refine ev_some ?_
  unfold prefP
  by_cases hc : 1 ≤ t.length ∧ t.length ≤ 481
  case neg =>
    rw [if_neg hc]
    exact ev_neg (by simp only [decide_eq_true_eq]; omega) (ev_eq rfl)
  rw [if_pos hc]
  refine ev_pos (decide_eq_true (by omega)) (ev_pos (by omega) (ev_some ?_))
  obtain ⟨ns, hns⟩ : ∃ ns, ns = t.drop 1 := ⟨_, rfl⟩
  rw [← hns]
  have hnl : ns.length ≤ 480 := by rw [hns, List.length_drop]; omega
  have key : ∀ d i (out : List Wd), ns.length - i = d → i ≤ ns.length → out.length = i + 1 → (∀ p ∈ out, p.length ≤ i) → Ev (fun k => impl_Trie_prefixes.l0 k (out.map wb) ns (ns.length : Int) (i : Int)) (match goP out (ns.drop i) with | some P => (P.map wb, true) | none => ([], false)) := by
    intro d
    induction d with
    | zero =>
      intro i out hd hi ho hs
      refine Ev.step (fun k => by unfold impl_Trie_prefixes.l0; rfl) (ev_neg (by omega) (ev_eq ?_))
      rw [List.drop_of_length_le (by omega)]
      rfl
    | succ d ih =>
      intro i out hd hi ho hs
      have hi' : i < ns.length := by omega
      refine Ev.step (fun k => by unfold impl_Trie_prefixes.l0; rfl) (ev_pos (by omega) (ev_pos (by omega) (ev_pos (by omega) ?_)))
      rw [rd_nd hi', in_eq, List.drop_eq_getElem_cons hi']
      unfold goP
      refine ev_some ?_
      by_cases h1 : 0 ≤ ns[i].f1 ∧ ns[i].f1 ≤ (i : Int)
      case neg =>
        rw [if_neg (fun h => h1 ⟨h.1, by omega⟩)]
        exact ev_neg (by simpa using h1) (ev_eq rfl)
      refine ev_pos (decide_eq_true h1) ?_
      rw [in_eq]
      refine ev_some ?_
      by_cases h2 : 0 ≤ ns[i].f0 ∧ ns[i].f0 ≤ 25
      case neg =>
        rw [if_neg (fun h => h2 ⟨h.2.2.1, h.2.2.2⟩)]
        exact ev_neg (by simpa using h2) (ev_eq rfl)
      refine ev_pos (decide_eq_true h2) (ev_pos h1.1 (ev_pos (by rw [List.length_map]; omega) ?_))
      rw [if_pos ⟨h1.1, by omega, h2.1, h2.2⟩]
      unfold impl_letter.f
      refine ev_some ?_
      rw [letter_str h2.1 h2.2]
      have hpo : ns[i].f1.toNat < out.length := by omega
      have hps := hs _ (getD_mem (l := out) (i := ns[i].f1.toNat) hpo [])
      have e1 : rdOf ByteArray.empty (out.map wb) ns[i].f1 = wb (out.getD ns[i].f1.toNat []) := by
        have := getD_wb out ns[i].f1.toNat hpo
        rwa [show ((ns[i].f1.toNat : Nat) : Int) = ns[i].f1 by omega] at this
      rw [e1]
      refine ev_pos (by rw [wb_size, wb_size, List.length_singleton]; omega) (ev_pos (by rw [List.length_map]; omega) ?_)
      rw [wb_append, inc (by omega)]
      have := ih (i + 1) (out ++ [out.getD ns[i].f1.toNat [] ++ [letterB ns[i].f0]]) (by omega) (by omega) (by rw [List.length_append, List.length_singleton]; omega) (fun p hp => by
        rcases List.mem_append.1 hp with hp | hp
        · have := hs p hp; omega
        · rw [List.mem_singleton] at hp; subst hp
          rw [List.length_append, List.length_singleton]; omega)
      rw [List.map_append] at this
      exact this
  have := key _ 0 [[]] rfl (Nat.zero_le _) rfl (by simp)
  rw [List.drop_zero] at this
  exact this
theorem words_ev {t : List ND} {P : List Wd} (h : prefP t = some P) : Ev (fun k => impl_Trie_words.f k t) ((wordsP t P).map wb) := by
  have hP := prefP_spec h
  have hp := prefixes_ev t (by omega)
  rw [h] at hp
  unfold impl_Trie_words.f
  refine Ev.bind hp ?_
  have key : ∀ d i, t.length - i = d → i ≤ t.length → ∀ acc : List ByteArray, acc.length ≤ i → Ev (fun k => impl_Trie_words.l0 k (P.map wb) acc t (t.length : Int) i) (acc ++ ((((List.range t.length).drop i).filter fun i => (t.getD i zND).f2).map fun i => P.getD i []).map wb) := by
    intro d
    induction d with
    | zero =>
      intro i hd hi acc ha
      refine Ev.step (fun k => by unfold impl_Trie_words.l0; rfl) (ev_neg (by omega) (ev_eq ?_))
      rw [List.drop_of_length_le (by simp; omega)]
      simp
    | succ d ih =>
      intro i hd hi acc ha
      have hi' : i < t.length := by omega
      refine Ev.step (fun k => by unfold impl_Trie_words.l0; rfl) (ev_pos (by omega) (ev_pos (by omega) (ev_pos (by omega) ?_)))
      have e : (List.range t.length).drop i = i :: (List.range t.length).drop (i + 1) := by
        rw [List.drop_eq_getElem_cons (by simpa using hi')]; simp
      have eg : (t.getD i zND).f2 = t[i].f2 := by rw [List.getD_eq_getElem?_getD, List.getElem?_eq_getElem hi', Option.getD_some]
      rw [rd_nd hi', e, List.filter_cons, eg]
      refine ev_ite (fun hc => ?_) (fun hc => ?_)
      · rw [getD_wb P i (by omega)]
        refine ev_pos (by rw [List.length_map]; omega) (ev_pos (by omega) ?_)
        rw [inc (by omega), if_pos hc]
        have := ih (i + 1) (by omega) (by omega) (acc ++ [wb (P.getD i [])]) (by simp; omega)
        rw [List.map_cons, List.map_cons]
        rw [List.append_assoc, List.singleton_append] at this
        exact this
      · rw [inc (by omega), if_neg hc]
        exact ih (i + 1) (by omega) (by omega) acc (by omega)
  have := key _ 0 rfl (Nat.zero_le _) [] (Nat.le_refl _)
  rw [List.nil_append, List.drop_zero] at this
  exact this
/-! ### comparisons -/
theorem less_eq (a b : ByteArray) : cmp_Less_string.f a b = some (decide (bw a < bw b)) := by
  unfold cmp_Less_string.f cmp_isNaN_string.f
  simp only [Option.bind_some, bne_self_eq_false, Bool.false_eq_true, if_false]
  rw [Go.Proofs.bytesLess_eq, toList_bw, toList_bw]
theorem isSorted_ev (l : List Wd) (hl : l.length ≤ 1000000) : Ev (fun k => slices_IsSorted_string_string.f k (l.map wb)) (decide (l.Pairwise (· ≤ ·))) := by
  have key : ∀ i, i < l.length → Ev (fun k => slices_IsSorted_string_string.l0 k (l.map wb) (i : Int)) (decide ((l.take (i + 1)).Pairwise (· ≤ ·))) := by
    intro i
    induction i with
    | zero =>
      intro hi
      refine Ev.step (fun k => by unfold slices_IsSorted_string_string.l0; rfl) (ev_neg (by omega) (ev_eq ?_))
      symm; rw [decide_eq_true_eq]
      match l, hi with
      | x :: l, _ => simp
    | succ i ih =>
      intro hi
      refine Ev.step (fun k => by unfold slices_IsSorted_string_string.l0; rfl) (ev_pos (by omega) (ev_pos (by omega) (ev_pos (by rw [List.length_map]; omega) ?_)))
      rw [show wrap64 (((i + 1 : Nat) : Int) - 1) = ((i : Nat) : Int) by rw [w64 (by omega) (by omega)]; omega]
      refine ev_pos (by omega) (ev_pos (by rw [List.length_map]; omega) ?_)
      rw [rdOf_map_wb l (i + 1) hi, rdOf_map_wb l i (by omega), less_eq, bw_wb, bw_wb]
      refine ev_some (ev_ite (fun hc => ev_eq ?_) (fun hc => ?_))
      · symm; rw [decide_eq_false_iff_not]
        intro h
        have h1 : (l.take (i + 1 + 1))[i]'(by rw [List.length_take]; omega) ≤ (l.take (i + 1 + 1))[i + 1]'(by rw [List.length_take]; omega) := List.pairwise_iff_getElem.1 h i (i + 1) _ _ (by omega)
        rw [List.getElem_take, List.getElem_take] at h1
        exact absurd (of_decide_eq_true hc) (List.not_lt.2 h1)
      · refine Eq.mp (congrArg _ ?_) (ih (by omega))
        rw [decide_eq_decide, List.take_succ_eq_append_getElem hi, List.pairwise_append]
        constructor
        · intro h
          refine ⟨h, by simp, fun a ha b hb => ?_⟩
          rw [List.mem_singleton] at hb
          subst hb
          have h2 : l[i] ≤ l[i + 1] := List.not_lt.1 (fun h3 => hc (decide_eq_true h3))
          obtain ⟨j, hj, rfl⟩ := List.getElem_of_mem ha
          rw [List.length_take] at hj
          rcases Nat.lt_or_ge j i with h3 | h3
          · have h4 : (l.take (i + 1))[j]'(by rw [List.length_take]; omega) ≤ (l.take (i + 1))[i]'(by rw [List.length_take]; omega) := List.pairwise_iff_getElem.1 h j i _ _ h3
            rw [List.getElem_take (i := i)] at h4
            exact List.le_trans h4 h2
          · obtain rfl : j = i := by omega
            rw [List.getElem_take]; exact h2
        · exact fun h => h.1
  unfold slices_IsSorted_string_string.f
  rw [List.length_map]
  rcases Nat.eq_zero_or_pos l.length with h0 | h0
  · have : l = [] := List.length_eq_zero_iff.1 h0
    subst this
    exact Ev.step (fun k => by unfold slices_IsSorted_string_string.l0; rfl) (ev_neg (by rw [show ((([] : List Wd).length : Int) - 1) = -1 from rfl, w64 (by omega) (by omega)]; omega) (ev_eq (by simp)))
  · have := key (l.length - 1) (by omega)
    rw [show wrap64 ((l.length : Int) - 1) = ((l.length - 1 : Nat) : Int) by rw [w64 (by omega) (by omega)]; omega]
    rwa [show l.length - 1 + 1 = l.length by omega, List.take_length] at this
theorem equal_ev (a b : List ND) (ha : a.length ≤ 2000000) : Ev (fun k => impl_Node.f k a b) (decide (a = b)) := by
  unfold impl_Node.f
  refine ev_ite (fun hl => ?_) (fun hl => ev_eq ?_)
  · have hl' : a.length = b.length := by omega
    have key : ∀ d i, a.length - i = d → i ≤ a.length → a.take i = b.take i → Ev (fun k => impl_Node.l0 k a b (a.length : Int) (i : Int)) (decide (a = b)) := by
      intro d
      induction d with
      | zero =>
        intro i hd hi ht
        refine Ev.step (fun k => by unfold impl_Node.l0; rfl) (ev_neg (by omega) (ev_eq ?_))
        symm; rw [decide_eq_true_eq]
        rw [List.take_of_length_le (by omega), List.take_of_length_le (by omega)] at ht
        exact ht
      | succ d ih =>
        intro i hd hi ht
        have hia : i < a.length := by omega
        have hib : i < b.length := by omega
        refine Ev.step (fun k => by unfold impl_Node.l0; rfl) (ev_pos (by omega) (ev_pos (by omega) (ev_pos (by omega) (ev_pos (by omega) ?_))))
        rw [rd_nd hia, rd_nd hib]
        by_cases hc : a[i] = b[i]
        · refine ev_neg (by rw [hc]; simp) ?_
          rw [inc (by omega)]
          refine ih (i + 1) (by omega) (by omega) ?_
          rw [List.take_succ_eq_append_getElem hia, List.take_succ_eq_append_getElem hib, ht, hc]
        · refine ev_pos ?_ (ev_eq ?_)
          · by_cases h1 : a[i].f0 = b[i].f0
            · by_cases h2 : a[i].f1 = b[i].f1
              · by_cases h3 : a[i].f2 = b[i].f2
                · exact absurd (show a[i] = b[i] from Prod.ext h1 (Prod.ext h2 h3)) hc
                · simp [h3]
              · simp [h2]
            · simp [h1]
          · symm; rw [decide_eq_false_iff_not]; rintro rfl; exact hc rfl
    exact key _ 0 rfl (Nat.zero_le _) rfl
  · symm; rw [decide_eq_false_iff_not]; rintro rfl; exact hl rfl
/-! ### a word in a sorted list -/
theorem half_eq {a b : Nat} (h : a + b ≤ 1000000000) : wrap64 ((IntKind.u64.wrap (wrap64 ((a : Int) + (b : Int)))) / 2) = (((a + b) / 2 : Nat) : Int) := by
  have e0 : wrap64 ((a : Int) + (b : Int)) = (a : Int) + (b : Int) := w64 (by omega) (by omega)
  rw [e0]
  have e : IntKind.u64.wrap ((a : Int) + (b : Int)) = ((a + b : Nat) : Int) := by
    show ((a : Int) + (b : Int)) % 18446744073709551616 = _
    omega
  rw [e, w64 (by omega) (by omega)]
  omega
theorem search_at (l : List Wd) (hl : l.length ≤ 100000) (hs : l.Pairwise (· ≤ ·)) (w : ByteArray) : ∃ i : Nat, Ev (fun k => slices_BinarySearch_string_string.f k (l.map wb) w) ((i : Int), decide (bw w ∈ l)) ∧ i ≤ l.length ∧ (∀ j (hj : j < l.length), j < i → l[j] < bw w) ∧ (∀ j (hj : j < l.length), i ≤ j → ¬ l[j] < bw w) := by
  have mono : ∀ a b (ha : a < l.length) (hb : b < l.length), a ≤ b → l[a] ≤ l[b] := by
    intro a b ha hb hab
    rcases Nat.lt_or_ge a b with h1 | h1
    · exact List.pairwise_iff_getElem.1 hs a b ha hb h1
    · obtain rfl : a = b := by omega
      exact List.le_refl _
  have key : ∀ d a b, b - a = d → a ≤ b → b ≤ l.length → (∀ i (hi : i < l.length), i < a → l[i] < bw w) → (∀ i (hi : i < l.length), b ≤ i → ¬ l[i] < bw w) →
      ∃ i : Nat, Ev (fun k => slices_BinarySearch_string_string.l0 k (l.map wb) w (l.length : Int) (a : Int) (b : Int)) ((i : Int), decide (bw w ∈ l)) ∧ i ≤ l.length ∧ (∀ j (hj : j < l.length), j < i → l[j] < bw w) ∧ (∀ j (hj : j < l.length), i ≤ j → ¬ l[j] < bw w) := by
    intro d
    induction d using Nat.strongRecOn with
    | _ d ih =>
      intro a b hd hab hb h1 h2
      rcases Nat.lt_or_ge a b with hlt | hge
      · have hm := half_eq (a := a) (b := b) (by omega)
        have hmid : (a + b) / 2 < l.length := by omega
        by_cases hc : l[(a + b) / 2] < bw w
        · obtain ⟨i, hi, hr⟩ := ih (b - ((a + b) / 2 + 1)) (by omega) ((a + b) / 2 + 1) b rfl (by omega) hb (fun i hi hia => by
            have h3 := mono i ((a + b) / 2) hi hmid (by omega)
            rcases (le_iff _ _).1 h3 with h4 | h4
            · exact lt_tr h4 hc
            · rw [h4]; exact hc) h2
          refine ⟨i, Ev.step (fun k => by unfold slices_BinarySearch_string_string.l0; rfl) (ev_pos (by omega) ?_), hr⟩
          rw [hm]
          refine ev_pos (by omega) (ev_pos (by rw [List.length_map]; omega) ?_)
          rw [rdOf_map_wb l _ hmid, less_eq, bw_wb]
          refine ev_some (ev_pos (decide_eq_true hc) ?_)
          rw [inc (by omega)]
          exact hi
        · obtain ⟨i, hi, hr⟩ := ih ((a + b) / 2 - a) (by omega) a ((a + b) / 2) rfl (by omega) (by omega) h1 (fun i hi hia h3 => by
            have h4 := mono ((a + b) / 2) i hmid hi hia
            rcases (le_iff _ _).1 h4 with h5 | h5
            · exact hc (lt_tr h5 h3)
            · exact hc (by rw [h5]; exact h3))
          refine ⟨i, Ev.step (fun k => by unfold slices_BinarySearch_string_string.l0; rfl) (ev_pos (by omega) ?_), hr⟩
          rw [hm]
          refine ev_pos (by omega) (ev_pos (by rw [List.length_map]; omega) ?_)
          rw [rdOf_map_wb l _ hmid, less_eq, bw_wb]
          exact ev_some (ev_neg (by simpa using hc) hi)
      · obtain rfl : a = b := by omega
        refine ⟨a, Ev.step (fun k => by unfold slices_BinarySearch_string_string.l0; rfl) (ev_neg (by omega) ?_), hb, h1, h2⟩
        by_cases hal : a < l.length
        · refine ev_pos (by omega) (ev_pos (by omega) (ev_pos (by rw [List.length_map]; omega) ?_))
          rw [rdOf_map_wb l a hal, toList_bw, toList_bw, bw_wb]
          refine ev_ite (fun hc => ev_eq ?_) (fun hc => ?_)
          · rw [decide_eq_true (hc ▸ List.getElem_mem hal)]
          · unfold slices_isNaN_string.f
            simp only [Option.bind_some, bne_self_eq_false, Bool.false_eq_true, if_false]
            refine ev_eq ?_
            rw [decide_eq_false]
            intro hm
            obtain ⟨j, hj, hje⟩ := List.getElem_of_mem hm
            rcases Nat.lt_or_ge j a with h3 | h3
            · have := h1 j hj h3
              rw [hje] at this
              exact lt_irr _ this
            · have h4 := mono a j hal hj h3
              rw [hje] at h4
              rcases (le_iff _ _).1 h4 with h5 | h5
              · exact h2 a hal (Nat.le_refl _) h5
              · exact hc h5
        · refine ev_neg (by omega) (ev_eq ?_)
          rw [decide_eq_false]
          intro hm
          obtain ⟨j, hj, hje⟩ := List.getElem_of_mem hm
          have := h1 j hj (by omega)
          rw [hje] at this
          exact lt_irr _ this
  obtain ⟨i, hi, hr⟩ := key _ 0 l.length rfl (Nat.zero_le _) (Nat.le_refl _) (fun i hi h => absurd h (Nat.not_lt_zero _)) (fun i hi h => absurd hi (by omega))
  refine ⟨i, ?_, hr⟩
  unfold slices_BinarySearch_string_string.f
  rw [List.length_map]
  exact hi
theorem search_word (l : List Wd) (hl : l.length ≤ 100000) (hs : l.Pairwise (· ≤ ·)) (w : ByteArray) : ∃ i, Ev (fun k => slices_BinarySearch_string_string.f k (l.map wb) w) (i, decide (bw w ∈ l)) := by
  obtain ⟨i, hi, _⟩ := search_at l hl hs w
  exact ⟨_, hi⟩
end Go.Proofs.YtcplbbflfgckbabGreatDoor.Pl
/- Plain: the program's set of words. -/
namespace Go.Proofs.YtcplbbflfgckbabGreatDoor.Pl
open Go.RowKit Go.Ab.Pw Go.Proofs.YtcplbbflfgckbabGreatDoorW.PrintWords Go.Proofs.YtcplbbflfgckbabGreatDoorW.PrintLast Go.Proofs.YtcplbbflfgckbabGreatDoorW.PrintMore Go.Proofs.YtcplbbflfgckbabGreatDoor.X

theorem set_eq (A : List Wd) (h : A.length ≤ 4000000) : impl_set.f (A.map wb) = some ((setW A).map wb) := by
  unfold impl_set.f
  rw [if_pos (by rw [List.length_map]; omega)]
  have e : impl_set.setOf (A.map wb) = (setW ((A.map wb).map bw)).map wb := rfl
  rw [e, bw_map_wb]
end Go.Proofs.YtcplbbflfgckbabGreatDoor.Pl
/- Plain: the program's trie of words, and when it takes a trie for valid. -/
namespace Go.Proofs.YtcplbbflfgckbabGreatDoor.Pl
open Go.RowKit Go.Ab.Pw Go.Proofs.YtcplbbflfgckbabGreatDoorW.PrintWords Go.Proofs.YtcplbbflfgckbabGreatDoorW.PrintLast Go.Proofs.YtcplbbflfgckbabGreatDoorW.PrintMore Go.Proofs.YtcplbbflfgckbabGreatDoor.X

/-- The map from prefixes to places, behind n of them. -/
def placesM (ps : List Wd) (n : Nat) : List (ByteArray × Int) := ((List.range n).map fun j => (wb (ps.getD j []), (j : Int))).reverse
theorem placesM_succ (ps : List Wd) (n : Nat) : placesM ps (n + 1) = (wb (ps.getD n []), (n : Int)) :: placesM ps n := by
  unfold placesM
  rw [List.range_succ, List.map_append, List.reverse_append]; rfl
theorem placesM_length (ps : List Wd) (n : Nat) : (placesM ps n).length = n := by simp [placesM]
theorem placesM_get {ps : List Wd} (hn : ps.Nodup) {q : Wd} (hq : q ∈ ps) : ∀ n, n ≤ ps.length → ps.idxOf q < n → G.mapGet (placesM ps n) (wb q) = (ps.idxOf q : Int)
  | 0, _, h => absurd h (Nat.not_lt_zero _)
  | n + 1, hl, h => by
    have hj := List.idxOf_lt_length_of_mem hq
    have hjv : ps[ps.idxOf q] = q := List.getElem_idxOf hj
    have hnl : n < ps.length := hl
    rw [placesM_succ]
    unfold G.mapGet
    have e : ps.getD n [] = ps[n] := by rw [List.getD_eq_getElem?_getD, List.getElem?_eq_getElem hnl, Option.getD_some]
    rw [e]
    have hb : (wb ps[n]).data.toList = ps[n] := bw_wb _
    have hb2 : (wb q).data.toList = q := bw_wb _
    simp only [hb, hb2]
    by_cases hc : ps[n] = q
    · rw [if_pos hc]
      have hp := List.pairwise_iff_getElem.1 hn
      rcases Nat.lt_or_ge (ps.idxOf q) n with h3 | h3
      · exact absurd (hjv.trans hc.symm) (hp _ _ hj hnl h3)
      · omega
    · rw [if_neg hc]
      refine placesM_get hn hq n (by omega) ?_
      have : ps.idxOf q ≠ n := by
        rintro rfl
        exact hc hjv
      omega
theorem trieOf_nodes (ws : List Wd) (hw : ws.length ≤ 100000) (hso : ws.Pairwise (· ≤ ·)) (hl : (prefs ws).length ≤ 100000) (hs : ∀ p ∈ prefs ws, p.length ≤ 1000000) :
    Ev (fun k => impl_trieOf.l2 k (ws.map wb) ((prefs ws).map wb) (((prefs ws).map wb).length : Int) 0 [] []) (trie ws) := by
  have key : ∀ d i, (prefs ws).length - i = d → i ≤ (prefs ws).length → Ev (fun k => impl_trieOf.l2 k (ws.map wb) ((prefs ws).map wb) (((prefs ws).map wb).length : Int) i (placesM (prefs ws) i) ((trie ws).take i)) (trie ws) := by
    intro d
    induction d with
    | zero =>
      intro i hd hi
      refine Ev.step (fun k => by unfold impl_trieOf.l2; rfl) (ev_neg (by rw [List.length_map]; omega) (ev_eq ?_))
      rw [List.take_of_length_le (by rw [trie_length]; omega)]
    | succ d ih =>
      intro i hd hi
      have hi' : i < (prefs ws).length := by omega
      have hi2 : i < (trie ws).length := by rw [trie_length]; exact hi'
      have hmem := List.getElem_mem hi'
      have hsz := hs _ hmem
      have htk : ((trie ws).take i).length = i := by rw [List.length_take]; omega
      have hn : (trie ws)[i] = nodeOf ws (prefs ws) (prefs ws)[i] := by simp [trie]
      have hnext : ∀ nd : ND, nd = (trie ws)[i] → Ev (fun k => impl_trieOf.l2 k (ws.map wb) ((prefs ws).map wb) (((prefs ws).map wb).length : Int) ((i + 1 : Nat) : Int) (placesM (prefs ws) (i + 1)) ((trie ws).take i ++ [nd])) (trie ws) := by
        rintro nd rfl
        rw [← List.take_succ_eq_append_getElem hi2]
        exact ih (i + 1) (by omega) (by omega)
      have eg : (prefs ws).getD i [] = (prefs ws)[i] := by rw [List.getD_eq_getElem?_getD, List.getElem?_eq_getElem hi', Option.getD_some]
      refine Ev.step (fun k => by unfold impl_trieOf.l2; rfl) (ev_pos (by rw [List.length_map]; omega) (ev_pos (by omega) (ev_pos (by rw [List.length_map]; omega) ?_)))
      rw [rdOf_map_wb _ _ hi']
      refine ev_pos (by rw [placesM_length]; omega) (ev_pos (by rw [wb_size]; omega) (ev_pos (by omega) (ev_pos (by omega) (ev_some ?_))))
      obtain ⟨j, hj⟩ := search_word ws hw hso (wb (prefs ws)[i])
      rw [bw_wb] at hj
      refine Ev.bind hj ?_
      rw [toList_bw, bw_wb, inc (by omega)]
      rw [show (wb (prefs ws)[i], (i : Int)) :: placesM (prefs ws) i = placesM (prefs ws) (i + 1) by rw [placesM_succ, eg]]
      by_cases he : (prefs ws)[i] = []
      · refine ev_pos he (ev_pos (by rw [htk]; omega) (hnext _ ?_))
        rw [hn]; unfold nodeOf; rw [if_pos he]
      · have hlp := List.length_pos_iff.2 he
        refine ev_neg he ?_
        have e1 : wrap64 (((wb (prefs ws)[i]).size : Int) - 1) = (((prefs ws)[i].length - 1 : Nat) : Int) := by
          rw [wb_size, w64 (by omega) (by omega)]; omega
        rw [e1]
        refine ev_pos (by omega) (ev_pos (by rw [wb_size]; omega) (ev_pos (by rw [wb_size]; omega) ?_))
        rw [Int.toNat_natCast, extract_wb, ← List.dropLast_eq_take, last_ltr he]
        have hdm := dropLast_mem hmem
        have hjl := List.idxOf_lt_length_of_mem hdm
        have hjv : (prefs ws)[(prefs ws).idxOf (prefs ws)[i].dropLast] = (prefs ws)[i].dropLast := List.getElem_idxOf hjl
        have hjk : (prefs ws).idxOf (prefs ws)[i].dropLast < i := (prefs_SS ws).idx_lt hjl hi' (by rw [hjv]; exact dropLast_lt he)
        rw [placesM_get (prefs_SS ws).nodup hdm (i + 1) (by omega) (by omega)]
        refine ev_pos (by rw [wb_size, List.length_dropLast]; omega) (ev_pos (by rw [htk]; omega) (hnext _ ?_))
        rw [hn]; unfold nodeOf; rw [if_neg he]
  have := key _ 0 rfl (Nat.zero_le _)
  rw [List.take_zero] at this
  exact this
theorem trieOf_ev (ws : List Wd) (hw : ws.length ≤ 100) (hso : ws.Pairwise (· ≤ ·)) (hs : ∀ w ∈ ws, w.length ≤ 100) : Ev (fun k => impl_trieOf.f k (ws.map wb)) (trie ws) := by
  have hpl := prefs_length (ws := ws) (m := 100) hs
  have hps : ∀ p ∈ prefs ws, p.length ≤ 100 := fun p hp => by
    rcases (mem_prefs ws p).1 hp with rfl | ⟨w, hw, hpw⟩
    · simp
    · exact Nat.le_trans hpw.length_le (hs w hw)
  have hnodes := trieOf_nodes ws (by omega) hso (by omega) (fun p hp => by have := hps p hp; omega)
  have inner : ∀ (i : Nat) (hi : i < ws.length) (A : List Wd), A.length ≤ 1 + 100 * i → Ev (fun k => impl_trieOf.l0 k (ws.map wb) ((A ++ inits ws[i]).map wb) (ws.map wb) ((ws.map wb).length : Int) ((i + 1 : Nat) : Int)) (trie ws) →
      ∀ d n, ws[i].length - n = d → n ≤ ws[i].length → Ev (fun k => impl_trieOf.l1 k (ws.map wb) ((A ++ (inits ws[i]).take n).map wb) (wb ws[i]) (ws.map wb) ((ws.map wb).length : Int) i ((wb ws[i]).size : Int) (n : Int)) (trie ws) := by
    intro i hi A hA hnext d
    have hwl := hs _ (List.getElem_mem hi)
    have hil : (inits ws[i]).length = ws[i].length := by simp [inits]
    induction d with
    | zero =>
      intro n hd hn
      obtain rfl : n = ws[i].length := by omega
      refine Ev.step (fun k => by unfold impl_trieOf.l1; rfl) (ev_neg (by rw [wb_size]; omega) ?_)
      rw [inc (by omega), List.take_of_length_le (by omega)]
      exact hnext
    | succ d ih =>
      intro n hd hn
      have hn' : n < ws[i].length := by omega
      refine Ev.step (fun k => by unfold impl_trieOf.l1; rfl) (ev_pos (by rw [wb_size]; omega) ?_)
      rw [inc (by omega)]
      refine ev_pos (by omega) (ev_pos (by rw [wb_size]; omega) (ev_pos (by rw [List.length_map, List.length_append, List.length_take]; omega) ?_))
      rw [Int.toNat_natCast, extract_wb]
      have := ih (n + 1) (by omega) (by omega)
      rw [List.take_succ_eq_append_getElem (by omega), ← List.append_assoc, List.map_append] at this
      have e : (inits ws[i])[n]'(by omega) = ws[i].take (n + 1) := by simp [inits]
      rw [e] at this
      exact this
  have outer : ∀ d i, ws.length - i = d → i ≤ ws.length → Ev (fun k => impl_trieOf.l0 k (ws.map wb) (([] :: (ws.take i).flatMap inits).map wb) (ws.map wb) ((ws.map wb).length : Int) i) (trie ws) := by
    intro d
    induction d with
    | zero =>
      intro i hd hi
      obtain rfl : i = ws.length := by omega
      refine Ev.step (fun k => by unfold impl_trieOf.l0; rfl) (ev_neg (by rw [List.length_map]; omega) ?_)
      have hfl := flat_length (ws := ws) (m := 100) hs
      rw [List.take_length, set_eq _ (by rw [List.length_cons]; omega)]
      exact ev_some hnodes
    | succ d ih =>
      intro i hd hi
      have hi' : i < ws.length := by omega
      refine Ev.step (fun k => by unfold impl_trieOf.l0; rfl) (ev_pos (by rw [List.length_map]; omega) (ev_pos (by omega) (ev_pos (by rw [List.length_map]; omega) ?_)))
      rw [rdOf_map_wb _ _ hi']
      have hfl := flat_length (ws := ws.take i) (m := 100) (fun w hw => hs w (List.mem_of_mem_take hw))
      rw [List.length_take] at hfl
      have hm : min i ws.length = i := by omega
      rw [hm] at hfl
      have h0 := inner i hi' ([] :: (ws.take i).flatMap inits) (by rw [List.length_cons]; omega) (by
        have := ih (i + 1) (by omega) (by omega)
        rw [List.take_succ_eq_append_getElem hi', List.flatMap_append] at this
        simpa using this) _ 0 rfl (Nat.zero_le _)
      rw [List.take_zero, List.append_nil] at h0
      exact h0
  have := outer _ 0 rfl (Nat.zero_le _)
  exact this
theorem anyM_some {α : Type} (p : α → Bool) (l : List α) : G.anyM (fun z => some (p z)) l = some (l.any p) := by
  induction l with
  | nil => rfl
  | cons x l ih =>
    unfold G.anyM
    simp only [Option.bind_some]
    rw [ih, List.any_cons]
    cases p x <;> rfl
theorem isTrie_ev (t : List ND) (ht : t.length ≤ 2000000) : Ev (fun k => impl_isTrie.f k t) (isT t) := by
  unfold impl_isTrie.f
  refine Ev.bind (prefixes_ev t ht) ?_
  cases hP : prefP t with
  | none =>
    refine ev_neg (by decide) ?_
    refine Ev.step (fun k => by unfold impl_isTrie.j0; rfl) (ev_pos rfl (ev_eq ?_))
    symm; rw [Bool.eq_false_iff, Ne, isT_iff, isT_prog]
    rintro ⟨P, h, _⟩
    rw [hP] at h; cases h
  | some P =>
    have hPs := prefP_spec hP
    refine ev_pos rfl ?_
    have ea : slices_ContainsFunc_string_string.f (P.map wb) (fun z_ => impl_isTrie_1.f z_) = some ((P.map wb).any fun z => decide ((z.size : Int) > 12)) := anyM_some _ _
    simp only [ea]
    refine ev_some ?_
    have hT := isT_prog t
    by_cases hs : ∀ p ∈ P, p.length ≤ 12
    case neg =>
      have e : ((P.map wb).any fun z => decide ((z.size : Int) > 12)) = true := by
        rw [List.any_eq_true]
        simp only [Classical.not_forall] at hs
        obtain ⟨p, hp, hlen⟩ := hs
        exact ⟨wb p, List.mem_map.2 ⟨p, hp, rfl⟩, decide_eq_true (by rw [wb_size]; omega)⟩
      rw [e]
      refine Ev.step (fun k => by unfold impl_isTrie.j0; rfl) (ev_pos rfl (ev_eq ?_))
      symm; rw [Bool.eq_false_iff, Ne, isT_iff, isT_prog]
      rintro ⟨P', h1, h2, _⟩
      rw [hP] at h1; cases h1
      exact hs h2
    have e : ((P.map wb).any fun z => decide ((z.size : Int) > 12)) = false := by
      rw [Bool.eq_false_iff, Ne, List.any_eq_true]
      rintro ⟨z, hz, hd⟩
      obtain ⟨p, hp, rfl⟩ := List.mem_map.1 hz
      have := of_decide_eq_true hd
      rw [wb_size] at this
      have := hs p hp
      omega
    rw [e]
    refine Ev.step (fun k => by unfold impl_isTrie.j0; rfl) (ev_neg (by decide) ?_)
    refine Ev.bind (words_ev hP) ?_
    have hwl := wordsP_length t P
    have no : ¬ ((wordsP t P).length ≤ 40 ∧ (wordsP t P).Pairwise (· ≤ ·) ∧ trie (wordsP t P) = t) → false = isT t := by
      intro h
      symm; rw [Bool.eq_false_iff, Ne, isT_iff, isT_prog]
      rintro ⟨P', h1, h2, h3, h4, h5⟩
      rw [hP] at h1; cases h1
      exact h ⟨h3, h4, h5⟩
    refine ev_ite (fun hc => ?_) (fun hc => ev_eq (no fun h => hc (by rw [List.length_map]; omega)))
    rw [List.length_map] at hc
    refine Ev.bind (isSorted_ev _ (by omega)) ?_
    refine ev_ite (fun hc2 => ?_) (fun hc2 => ev_eq (no fun h => hc2 (decide_eq_true h.2.1)))
    have hso := of_decide_eq_true hc2
    have hlen : ∀ w ∈ wordsP t P, w.length ≤ 12 := fun w hw => hs w (wordsP_mem hPs.2.2.1 hw)
    refine Ev.bind (trieOf_ev _ (by omega) hso (fun w hw => by have := hlen w hw; omega)) ?_
    have htl := prefs_length (ws := wordsP t P) (m := 12) hlen
    refine Ev.bind (equal_ev _ t (by rw [trie_length]; omega)) (ev_eq ?_)
    rw [Bool.eq_iff_iff, isT_iff, hT, decide_eq_true_eq]
    constructor
    · intro h
      exact ⟨P, hP, hs, by omega, hso, h⟩
    · rintro ⟨P', h1, _, _, _, h5⟩
      rw [hP] at h1; cases h1
      exact h5
end Go.Proofs.YtcplbbflfgckbabGreatDoor.Pl
/- Plain: words under a prefix, what words have in common, what tells a word from others: over lists of letters. -/
namespace Go.Proofs.YtcplbbflfgckbabGreatDoor.Pl
open Go.RowKit Go.Ab.Pw Go.Proofs.YtcplbbflfgckbabGreatDoorW.PrintWords Go.Proofs.YtcplbbflfgckbabGreatDoorW.PrintLast Go.Proofs.YtcplbbflfgckbabGreatDoorW.PrintMore
/-- The words that begin with p. -/
def underL (ws : List Wd) (p : Wd) : List Wd := ws.filter (fun w => p.isPrefixOf w)
theorem mem_under {ws : List Wd} {p w : Wd} : w ∈ underL ws p ↔ w ∈ ws ∧ p <+: w := by unfold underL; rw [List.mem_filter, List.isPrefixOf_iff_prefix]
theorem under_SS {ws : List Wd} (h : SS ws) (p : Wd) : SS (underL ws p) := h.filter _
theorem under_length (ws : List Wd) (p : Wd) : (underL ws p).length ≤ ws.length := List.length_filter_le _ _
theorem under_nil (ws : List Wd) : underL ws [] = ws := List.filter_eq_self.2 (fun _ _ => rfl)
/-- What two words have in common. -/
def lcp : Wd → Wd → Wd
  | a :: x, b :: y => if a = b then a :: lcp x y else []
  | _, _ => []
theorem lcp_left : ∀ x y : Wd, lcp x y <+: x
  | a :: x, b :: y => by
    unfold lcp
    by_cases h : a = b
    · rw [if_pos h]; exact List.cons_prefix_cons.2 ⟨rfl, lcp_left x y⟩
    · rw [if_neg h]; exact List.nil_prefix
  | [], y => by unfold lcp; exact List.nil_prefix
  | a :: x, [] => by unfold lcp; exact List.nil_prefix
theorem lcp_right : ∀ x y : Wd, lcp x y <+: y
  | a :: x, b :: y => by
    unfold lcp
    by_cases h : a = b
    · rw [if_pos h, h]; exact List.cons_prefix_cons.2 ⟨rfl, lcp_right x y⟩
    · rw [if_neg h]; exact List.nil_prefix
  | [], y => by unfold lcp; exact List.nil_prefix
  | a :: x, [] => by unfold lcp; exact List.nil_prefix
theorem lcp_most : ∀ {q x y : Wd}, q <+: x → q <+: y → q <+: lcp x y
  | [], _, _, _, _ => List.nil_prefix
  | c :: q, x, y, h1, h2 => by
    obtain ⟨s, rfl⟩ := h1
    obtain ⟨t, rfl⟩ := h2
    simp only [List.cons_append, lcp, if_true]
    exact List.cons_prefix_cons.2 ⟨rfl, lcp_most ⟨s, rfl⟩ ⟨t, rfl⟩⟩
theorem u8_anti {a b : UInt8} (h1 : ¬ a < b) (h2 : ¬ b < a) : a = b := by
  rw [UInt8.lt_iff_toNat_lt] at h1 h2
  exact UInt8.toNat.inj (by omega)
/-- What stands between two words that begin with q begins with q. -/
theorem between : ∀ {q a x b : Wd}, q <+: a → q <+: b → a ≤ x → x ≤ b → q <+: x
  | [], _, _, _, _, _, _, _ => List.nil_prefix
  | c :: q, a, x, b, h1, h2, h3, h4 => by
    obtain ⟨s, rfl⟩ := h1
    obtain ⟨t, rfl⟩ := h2
    match x with
    | [] => exact absurd (List.nil_lt_cons c (q ++ s)) (List.not_lt.2 h3)
    | d :: x =>
      rw [List.cons_append, ← List.not_lt, List.cons_lt_cons_iff] at h3 h4
      have e : c = d := u8_anti (fun h => h4 (.inl h)) (fun h => h3 (.inl h))
      subst e
      refine List.cons_prefix_cons.2 ⟨rfl, between ⟨s, rfl⟩ ⟨t, rfl⟩ ?_ ?_⟩
      · exact List.not_lt.1 (fun h => h3 (.inr ⟨rfl, h⟩))
      · exact List.not_lt.1 (fun h => h4 (.inr ⟨rfl, h⟩))
/-- What all words have in common, the words in order. -/
def sharedL (ws : List Wd) : Wd := lcp (ws.getD 0 []) (ws.getD (ws.length - 1) [])
theorem getD_mem' {l : List Wd} {i : Nat} (h : i < l.length) : l.getD i [] ∈ l := getD_mem h []
theorem shared_all {ws : List Wd} (hs : SS ws) {w : Wd} (hw : w ∈ ws) : sharedL ws <+: w := by
  obtain ⟨i, hi, rfl⟩ := List.getElem_of_mem hw
  have h0 : 0 < ws.length := by omega
  have e0 : ws.getD 0 [] = ws[0] := by rw [List.getD_eq_getElem?_getD, List.getElem?_eq_getElem h0]; rfl
  have e1 : ws.getD (ws.length - 1) [] = ws[ws.length - 1] := by rw [List.getD_eq_getElem?_getD, List.getElem?_eq_getElem (by omega)]; rfl
  refine between (lcp_left _ _) (lcp_right _ _) ?_ ?_
  · rw [e0]
    rcases Nat.eq_zero_or_pos i with h | h
    · subst h; exact List.le_refl _
    · exact le_of_lt' (List.pairwise_iff_getElem.1 hs 0 i h0 hi h)
  · rw [e1]
    by_cases h : i = ws.length - 1
    · subst h; exact List.le_refl _
    · exact le_of_lt' (List.pairwise_iff_getElem.1 hs i (ws.length - 1) hi (by omega) (by omega))
theorem shared_most {ws : List Wd} (h0 : 0 < ws.length) {q : Wd} (h : ∀ w ∈ ws, q <+: w) : q <+: sharedL ws := lcp_most (h _ (getD_mem' h0)) (h _ (getD_mem' (by omega)))
theorem under_all {ws : List Wd} {q : Wd} : (underL ws q).length = ws.length ↔ ∀ w ∈ ws, q <+: w := by
  unfold underL
  rw [List.length_filter_eq_length_iff]
  simp only [List.isPrefixOf_iff_prefix]
theorem under_eq {ws : List Wd} {q : Wd} (h : ∀ w ∈ ws, q <+: w) : underL ws q = ws := List.filter_eq_self.2 (fun w hw => by rw [List.isPrefixOf_iff_prefix]; exact h w hw)
/-- Words under what the words under p have in common. -/
theorem under_shared {ws : List Wd} (hs : SS ws) {p : Wd} (h0 : 0 < (underL ws p).length) : underL ws (sharedL (underL ws p)) = underL ws p := by
  have hp : p <+: sharedL (underL ws p) := shared_most h0 (fun w hw => (mem_under.1 hw).2)
  unfold underL
  refine List.filter_congr (fun w hw => ?_)
  rw [Bool.eq_iff_iff, List.isPrefixOf_iff_prefix, List.isPrefixOf_iff_prefix]
  exact ⟨fun h => hp.trans h, fun h => shared_all (under_SS hs p) (mem_under.2 ⟨hw, h⟩)⟩
/-- The shortest beginning of w that none of the others has, from n letters on. -/
def uniqFrom (ws : List Wd) (w : Wd) : Nat → Nat → Wd
  | 0, _ => w
  | f + 1, n => if (underL ws (w.take n)).length = 1 then w.take n else uniqFrom ws w f (n + 1)
def uniqL (ws : List Wd) (w : Wd) : Wd := uniqFrom ws w w.length 0
theorem uniq_cases (ws : List Wd) (w : Wd) : ∀ f n, n + f = w.length → (uniqFrom ws w f n = w ∧ ∀ m, n ≤ m → m < w.length → (underL ws (w.take m)).length ≠ 1) ∨ ∃ m, n ≤ m ∧ m < w.length ∧ uniqFrom ws w f n = w.take m ∧ (underL ws (w.take m)).length = 1 ∧ ∀ j, n ≤ j → j < m → (underL ws (w.take j)).length ≠ 1
  | 0, n, h => .inl ⟨rfl, fun m h1 h2 => by omega⟩
  | f + 1, n, h => by
    unfold uniqFrom
    by_cases hc : (underL ws (w.take n)).length = 1
    · rw [if_pos hc]; exact .inr ⟨n, Nat.le_refl _, by omega, rfl, hc, fun j h1 h2 => by omega⟩
    · rw [if_neg hc]
      rcases uniq_cases ws w f (n + 1) (by omega) with ⟨h1, h2⟩ | ⟨m, h1, h2, h3, h4, h5⟩
      · refine .inl ⟨h1, fun m h3 h4 => ?_⟩
        rcases Nat.eq_or_lt_of_le h3 with rfl | h6
        · exact hc
        · exact h2 m h6 h4
      · refine .inr ⟨m, by omega, h2, h3, h4, fun j h6 h7 => ?_⟩
        rcases Nat.eq_or_lt_of_le h6 with rfl | h8
        · exact hc
        · exact h5 j h8 h7
/-- What is known of it. -/
theorem uniq_spec {ws : List Wd} {w : Wd} (hw : w ∈ ws) : uniqL ws w <+: w ∧ (uniqL ws w ≠ w → (underL ws (uniqL ws w)).length = 1) ∧ (0 < (uniqL ws w).length → 2 ≤ (underL ws ((uniqL ws w).take ((uniqL ws w).length - 1))).length) := by
  have one : ∀ m, 1 ≤ (underL ws (w.take m)).length := fun m => List.length_pos_of_mem (mem_under.2 ⟨hw, List.take_prefix m w⟩)
  rcases uniq_cases ws w w.length 0 (by omega) with ⟨h1, h2⟩ | ⟨m, h1, h2, h3, h4, h5⟩
  · have e : uniqL ws w = w := h1
    rw [e]
    refine ⟨List.prefix_refl _, fun h => absurd rfl h, fun h => ?_⟩
    have := h2 (w.length - 1) (Nat.zero_le _) (by omega)
    have := one (w.length - 1)
    omega
  · have e : uniqL ws w = w.take m := h3
    have el : (w.take m).length = m := by rw [List.length_take]; omega
    rw [e]
    refine ⟨List.take_prefix m w, fun _ => h4, fun h => ?_⟩
    rw [el] at h ⊢
    rw [List.take_take, Nat.min_eq_left (by omega)]
    have := h5 (m - 1) (Nat.zero_le _) (by omega)
    have := one (m - 1)
    omega
end Go.Proofs.YtcplbbflfgckbabGreatDoor.Pl
/- Plain: when nothing is left of a text that is trimmed. -/
namespace Go.Proofs.YtcplbbflfgckbabGreatDoor.Pl
open Go.RowKit Go.Ab.Pw Go.Proofs.YtcplbbflfgckbabGreatDoorW.PrintWords Go.Proofs.YtcplbbflfgckbabGreatDoorW.PrintLast Go.Proofs.YtcplbbflfgckbabGreatDoorW.PrintMore

theorem dropWhile_nil {α : Type} {p : α → Bool} : ∀ {l : List α}, l.dropWhile p = [] ↔ ∀ x ∈ l, p x = true
  | [] => by simp
  | a :: l => by
    rw [List.dropWhile_cons]
    cases h : p a with
    | true => rw [if_pos rfl, dropWhile_nil (l := l)]; simp [h]
    | false => rw [if_neg (by decide)]; simp [h]
theorem dropWhile_head {α : Type} {p : α → Bool} : ∀ {l : List α} {a : α} {r : List α}, l.dropWhile p = a :: r → p a = false
  | b :: l, a, r, h => by
    rw [List.dropWhile_cons] at h
    cases hb : p b with
    | true => rw [hb, if_pos rfl] at h; exact dropWhile_head h
    | false => rw [hb, if_neg (by decide)] at h; cases h; exact hb
theorem trim_nil (l : List UInt8) (cs : List UInt8) : Lib.trimS l cs = [] ↔ ∀ x ∈ l, cs.contains x = true := by
  unfold Lib.trimS Lib.trimLeftS Lib.trimRightS
  rw [dropWhile_nil]
  constructor
  · intro h
    have h2 : l.reverse.dropWhile (cs.contains ·) = [] := by
      cases hd : l.reverse.dropWhile (cs.contains ·) with
      | nil => rfl
      | cons a r =>
        exfalso
        have h3 := h a (by rw [hd]; simp)
        have h4 := dropWhile_head hd
        rw [h3] at h4
        exact absurd h4 (by decide)
    rw [dropWhile_nil] at h2
    intro x hx
    exact h2 x (by simpa using hx)
  · intro h x hx
    have h2 : l.reverse.dropWhile (cs.contains ·) = [] := by
      rw [dropWhile_nil]
      intro y hy
      exact h y (by simpa using hy)
    rw [h2] at hx; simp at hx
end Go.Proofs.YtcplbbflfgckbabGreatDoor.Pl
/- Plain: when a text is a word, as the program asks it. -/
namespace Go.Proofs.YtcplbbflfgckbabGreatDoor.Pl
open Go.RowKit Go.Ab.Pw Go.Proofs.YtcplbbflfgckbabGreatDoorW.PrintWords Go.Proofs.YtcplbbflfgckbabGreatDoorW.PrintLast Go.Proofs.YtcplbbflfgckbabGreatDoorW.PrintMore Go.Proofs.YtcplbbflfgckbabGreatDoor.X

theorem letter_iff (x : UInt8) : ([97, 98, 99, 100, 101, 102, 103, 104, 105, 106, 107, 108, 109, 110, 111, 112, 113, 114, 115, 116, 117, 118, 119, 120, 121, 122] : List UInt8).contains x = true ↔ 97 ≤ x.toNat ∧ x.toNat ≤ 122 := by
  simp only [List.contains_iff_mem, List.mem_cons, List.not_mem_nil, or_false, ← UInt8.toNat_inj, UInt8.reduceToNat]
  omega
theorem areLetters_eq (s : ByteArray) (hs : s.size ≤ 140737488351232) : impl_areLetters.f s = some (decide (∀ b ∈ bw s, 97 ≤ b.toNat ∧ b.toNat ≤ 122)) := by
  unfold impl_areLetters.f strings_Trim.f
  rw [if_pos ⟨by omega, by decide, by decide⟩, Option.bind_some]
  congr 1
  rw [Bool.eq_iff_iff, beq_iff_eq, toList_bytes, decide_eq_true_eq]
  have : (⟨(Lib.trimS s.data.toList (⟨#[97, 98, 99, 100, 101, 102, 103, 104, 105, 106, 107, 108, 109, 110, 111, 112, 113, 114, 115, 116, 117, 118, 119, 120, 121, 122]⟩ : ByteArray).data.toList).toArray⟩ : ByteArray).data.toList = Lib.trimS s.data.toList [97, 98, 99, 100, 101, 102, 103, 104, 105, 106, 107, 108, 109, 110, 111, 112, 113, 114, 115, 116, 117, 118, 119, 120, 121, 122] := by simp
  rw [this, trim_nil]
  exact forall_congr' fun x => forall_congr' fun _ => letter_iff x
theorem isWord_eq (s : ByteArray) (hs : s.size ≤ 140737488351232) : impl_isWord.f s = some (decide (okW (bw s))) := by
  unfold impl_isWord.f
  rw [areLetters_eq s hs]
  have hsz := bw_size s
  by_cases h : (s.size : Int) ≤ 12
  · rw [if_pos h, Option.bind_some]; congr 1; rw [decide_eq_decide]
    exact ⟨fun h2 => ⟨by omega, h2⟩, fun h2 => h2.2⟩
  · rw [if_neg h]; congr 1; symm; rw [decide_eq_false_iff_not]; exact fun h2 => h (by have := h2.1; omega)
end Go.Proofs.YtcplbbflfgckbabGreatDoor.Pl
/- Plain: what a valid trie answers, told by its words: the words, those under a prefix, unique and shared beginnings. -/
namespace Go.Proofs.YtcplbbflfgckbabGreatDoor.Pl
open Go.RowKit Go.Ab.Pw Go.Proofs.YtcplbbflfgckbabGreatDoorW.PrintWords Go.Proofs.YtcplbbflfgckbabGreatDoorW.PrintLast Go.Proofs.YtcplbbflfgckbabGreatDoorW.PrintMore Go.Proofs.YtcplbbflfgckbabGreatDoor.X

theorem ev_of {α : Type} {x : Option α} {r : α} (h : x = some r) : Ev (fun _ => x) r := h ▸ Ev.now r
/-- The words of a valid trie. -/
structure WOk (ws : List Wd) : Prop where
  ss : SS ws
  ok : ∀ w ∈ ws, okW w
  le : ws.length ≤ 40
theorem isT_cases (t : List ND) : (∃ ws, WOk ws ∧ t = trie ws) ∨ isT t = false := by
  cases h : isT t with
  | true =>
    obtain ⟨ws, h1, h2, h3, h4⟩ := (isT_iff t).1 h
    exact .inl ⟨ws, ⟨h1, h2, h3⟩, h4⟩
  | false => exact .inr rfl
section
variable {ws : List Wd} (h : WOk ws)
include h
theorem WOk.isT : isT (trie ws) = true := (isT_iff _).2 ⟨ws, h.ss, h.ok, h.le, rfl⟩
theorem WOk.tok : TOk (trie ws) (prefs ws) := ⟨prefP_trie h.ok h.le, fun p hp => (prefs_okW h.ok hp).1⟩
theorem WOk.len : (trie ws).length ≤ 481 := (trie_bound h.ok h.le).2
theorem WOk.len1 : 1 ≤ (trie ws).length := (trie_bound h.ok h.le).1
theorem WOk.size {w : Wd} (hw : w ∈ ws) : w.length ≤ 12 := (h.ok w hw).1
theorem WOk.trieT : Ev (fun k => impl_isTrie.f k (trie ws)) true := by
  have := isTrie_ev (trie ws) (by have := h.len; omega)
  rwa [h.isT] at this
theorem WOk.l2Trie : Ev (fun k => spec_l2Trie.f k (trie ws)) true := by
  have := l2Trie_ev (trie ws) (by have := h.len; omega)
  rwa [h.isT] at this
theorem WOk.l2Words : Ev (fun k => spec_l2Words.f k (trie ws)) (ws.map wb) := by
  obtain ⟨vs, h1, _, _, h4⟩ := l2Words_ev (trie ws) (by have := h.len; omega)
  rw [h4 _ h.tok, wordsP_trie h.ss] at h1
  exact h1
theorem WOk.words : Ev (fun k => impl_Trie_words.f k (trie ws)) (ws.map wb) := by
  have := words_ev h.tok.pre
  rwa [wordsP_trie h.ss] at this
end
theorem noT_i {t : List ND} (ht : t.length ≤ 2000000) (h : isT t = false) : Ev (fun k => impl_isTrie.f k t) false := by
  have := isTrie_ev t ht
  rwa [h] at this
theorem noT_s {t : List ND} (ht : t.length ≤ 2000000) (h : isT t = false) : Ev (fun k => spec_l2Trie.f k t) false := by
  have := l2Trie_ev t ht
  rwa [h] at this
theorem prefix_take {p w : Wd} : p <+: w ↔ p.length ≤ w.length ∧ w.take p.length = p := by
  constructor
  · intro h
    exact ⟨h.length_le, (List.prefix_iff_eq_take.1 h).symm⟩
  · rintro ⟨_, h2⟩
    rw [← h2]; exact List.take_prefix _ _
theorem isPrefixOf_eq (p w : Wd) : p.isPrefixOf w = (decide (p.length ≤ w.length) && (w.take p.length == p)) := by
  rw [Bool.eq_iff_iff, List.isPrefixOf_iff_prefix, prefix_take, Bool.and_eq_true, decide_eq_true_eq, beq_iff_eq]
theorem begins_eq (w : Wd) (p : ByteArray) : (decide (p.size ≤ (wb w).size) && (((wb w).extract 0 p.size).toList == p.toList)) = (bw p).isPrefixOf w := by
  rw [isPrefixOf_eq, wb_size, bw_size, extract_wb, toList_bw, toList_bw, bw_wb]
theorem map_filter_wb (ws : List Wd) (p : Wd → Bool) (q : ByteArray → Bool) (h : ∀ w, q (wb w) = p w) : (ws.map wb).filter q = (ws.filter p).map wb := by
  rw [List.filter_map]
  congr 1
  exact List.filter_congr (fun w _ => h w)
theorem l2Begins_eq (w : Wd) (p : ByteArray) : spec_l2Begins.f (wb w) p = some ((bw p).isPrefixOf w) := by
  rw [← begins_eq]
  unfold spec_l2Begins.f
  by_cases h : p.size ≤ (wb w).size
  · rw [if_pos (by omega), if_pos (by omega), if_pos (by omega), decide_eq_true h, Bool.true_and]
  · rw [if_neg (by omega), decide_eq_false h, Bool.false_and]
theorem dropM_of {F : ByteArray → Option Bool} {p : ByteArray → Bool} : ∀ {l : List ByteArray}, (∀ z ∈ l, F z = some (p z)) → G.dropM F l = some (l.filter fun z => !p z)
  | [], _ => rfl
  | x :: l, h => by
    unfold G.dropM
    rw [h x List.mem_cons_self, Option.bind_some, dropM_of (fun z hz => h z (List.mem_cons_of_mem _ hz)), Option.bind_some, List.filter_cons]
    cases p x <;> rfl
/-- What stays of words of which those go that are not so. -/
theorem del_words {ws : List Wd} (hl : ws.length ≤ 100000) {F : ByteArray → Option Bool} {p : Wd → Bool} (hF : ∀ w ∈ ws, F (wb w) = some (!p w)) : slices_DeleteFunc_string_string.f (ws.map wb) F = some ((ws.filter p).map wb) := by
  unfold slices_DeleteFunc_string_string.f
  rw [if_neg (by rw [List.length_map]; omega), dropM_of (p := fun z => !p (bw z)) (fun z hz => by
    obtain ⟨w, hw, rfl⟩ := List.mem_map.1 hz
    rw [hF w hw, bw_wb])]
  congr 1
  exact map_filter_wb ws _ _ (fun w => by rw [bw_wb, Bool.not_not])
theorem hasPrefix_eq (w : Wd) (p : ByteArray) : strings_HasPrefix.f (wb w) p = some ((bw p).isPrefixOf w) := by
  rw [← begins_eq]
  unfold strings_HasPrefix.f stringslite_HasPrefix.f
  by_cases hs : ((wb w).size : Int) ≥ (p.size : Int)
  · rw [if_pos hs, if_pos (by omega), if_pos (by omega), decide_eq_true (by omega)]; rfl
  · rw [if_neg hs, decide_eq_false (by omega)]; rfl
theorem WOk.under {ws : List Wd} (h : WOk ws) (p : ByteArray) : Ev (fun k => impl_Trie_under.f k (trie ws) p) ((underL ws (bw p)).map wb) := by
  unfold impl_Trie_under.f
  refine Ev.bind h.words (Ev.bind (a := (underL ws (bw p)).map wb) (ev_of ?_) (ev_eq rfl))
  refine del_words (by have := h.le; omega) (fun w _ => ?_)
  unfold impl_Trie_under_1.f
  rw [hasPrefix_eq]; rfl
theorem l3Under_ev (ws : List Wd) (hl : ws.length ≤ 100000) (p : ByteArray) : Ev (fun k => spec_l3Under.f k (ws.map wb) p) ((underL ws (bw p)).map wb) := by
  unfold spec_l3Under.f
  have key : ∀ (suf pre A : List Wd), ws = pre ++ suf → A.length ≤ pre.length → Ev (fun k => spec_l3Under.l0 k (ws.map wb) p (A.map wb) pre.length) ((A ++ underL suf (bw p)).map wb) := by
    intro suf
    induction suf with
    | nil =>
      intro pre A he hA
      have hlen : pre.length = ws.length := by rw [he]; simp
      refine Ev.step (fun k => by unfold spec_l3Under.l0; rfl) (ev_neg (by rw [List.length_map]; omega) (ev_eq ?_))
      simp [underL]
    | cons x suf ih =>
      intro pre A he hA
      have hlen : ws.length = pre.length + (suf.length + 1) := by rw [he]; simp
      have hx : rdOf ByteArray.empty (ws.map wb) (pre.length : Int) = wb x := by
        rw [rdOf_map_wb ws pre.length (by omega)]
        congr 1
        subst he
        simp
      refine Ev.step (fun k => by unfold spec_l3Under.l0; rfl) (ev_pos (by rw [List.length_map]; omega) (ev_pos (by omega) ?_))
      rw [hx, l2Begins_eq, inc (by omega)]
      refine ev_some ?_
      have e1 : ((pre.length + 1 : Nat) : Int) = (((pre ++ [x]).length : Nat) : Int) := by simp
      rw [e1]
      cases hb : (bw p).isPrefixOf x with
      | true =>
        refine ev_pos rfl (ev_pos (by rw [List.length_map]; omega) ?_)
        have := ih (pre ++ [x]) (A ++ [x]) (by rw [he]; simp) (by simp; omega)
        have e2 : A ++ underL (x :: suf) (bw p) = A ++ [x] ++ underL suf (bw p) := by unfold underL; rw [List.filter_cons_of_pos hb]; simp
        rw [e2]
        rw [List.map_append] at this
        exact this
      | false =>
        refine ev_neg (by decide) ?_
        have := ih (pre ++ [x]) A (by rw [he]; simp) (by simp; omega)
        have e2 : A ++ underL (x :: suf) (bw p) = A ++ underL suf (bw p) := by unfold underL; rw [List.filter_cons_of_neg (by rw [hb]; decide)]
        rw [e2]
        exact this
  have := key ws [] [] rfl (Nat.le_refl _)
  simpa using this
theorem lcp_take : ∀ (n : Nat) (x y : Wd), n ≤ x.length → n ≤ y.length → x.take n = y.take n → (∀ (h1 : n < x.length) (h2 : n < y.length), x[n] ≠ y[n]) → lcp x y = x.take n
  | 0, [], y, _, _, _, _ => by simp [lcp]
  | 0, a :: x, [], _, _, _, _ => by simp [lcp]
  | 0, a :: x, b :: y, _, _, _, h => by
    have := h (by simp) (by simp)
    simp only [List.getElem_cons_zero] at this
    simp [lcp, this]
  | n + 1, [], y, h1, _, _, _ => absurd h1 (by simp)
  | n + 1, a :: x, [], _, h2, _, _ => absurd h2 (by simp)
  | n + 1, a :: x, b :: y, h1, h2, h3, h4 => by
    simp only [List.take_succ_cons, List.cons.injEq] at h3
    simp only [List.length_cons, Nat.add_le_add_iff_right] at h1 h2
    rw [lcp, if_pos h3.1, List.take_succ_cons, lcp_take n x y h1 h2 h3.2 (fun g1 g2 => by have := h4 (by simpa using g1) (by simpa using g2); simp only [List.getElem_cons_succ] at this; exact this)]
theorem containsW_ev (l : List ByteArray) (x : ByteArray) (hl : l.length ≤ 1000000000) : Ev (fun k => slices_Contains_string_string.f k l x) (decide (bw x ∈ l.map bw)) := by
  unfold slices_Contains_string_string.f slices_Index_string_string.f
  have key : ∀ m i, l.length - i = m → i ≤ l.length → ∃ r : Int, Ev (fun k => slices_Index_string_string.l0 k l x (l.length : Int) (i : Nat)) r ∧ (0 ≤ r ↔ x ∈ l.drop i) := by
    intro m
    induction m with
    | zero =>
      intro i hm hi
      refine ⟨-1, Ev.step (fun k => by unfold slices_Index_string_string.l0; rfl) (ev_neg (by omega) (ev_eq rfl)), ?_⟩
      rw [List.drop_of_length_le (by omega)]
      simp
    | succ m ih =>
      intro i hm hi
      have hi' : i < l.length := by omega
      obtain ⟨r, h1, h2⟩ := ih (i + 1) (by omega) (by omega)
      rw [drop_cons hi' ByteArray.empty, List.mem_cons]
      by_cases e : x = l.getD i ByteArray.empty
      · exact ⟨i, Ev.step (fun k => by unfold slices_Index_string_string.l0; rfl) (ev_pos (by omega) (ev_pos (by omega) (ev_pos (by omega) (ev_pos (by rw [rdOf_nat]; exact toList_inj.2 e) (ev_eq rfl))))), ⟨fun _ => .inl e, fun _ => by omega⟩⟩
      · refine ⟨r, Ev.step (fun k => by unfold slices_Index_string_string.l0; rfl) (ev_pos (by omega) (ev_pos (by omega) (ev_pos (by omega) (ev_neg (by rw [rdOf_nat]; exact fun h => e (toList_inj.1 h)) ?_)))), ⟨fun h => .inr (h2.1 h), fun h => h2.2 (h.resolve_left e)⟩⟩
        rw [inc (by omega)]
        exact h1
  obtain ⟨r, h1, h2⟩ := key _ 0 rfl (Nat.zero_le _)
  rw [List.drop_zero] at h2
  exact Ev.bind h1 (ev_eq (decide_eq_decide.2 (h2.trans mem_map_bw.symm)))
theorem mem_map_wb {ws : List Wd} {s : ByteArray} : bw s ∈ (ws.map wb).map bw ↔ bw s ∈ ws := by rw [bw_map_wb]
theorem WOk.has {ws : List Wd} (h : WOk ws) (w : ByteArray) : Ev (fun k => impl_Trie_has.f k (trie ws) w) (decide (bw w ∈ ws)) := by
  unfold impl_Trie_has.f
  have := containsW_ev (ws.map wb) w (by have := h.le; rw [List.length_map]; omega)
  rw [bw_map_wb] at this
  exact Ev.bind h.words (Ev.bind this (ev_eq rfl))
theorem WOk.l2Has {ws : List Wd} (h : WOk ws) (w : ByteArray) : Ev (fun k => spec_l2Has.f k (ws.map wb) w) (decide (bw w ∈ ws)) := by
  have := l2Has_ev (ws.map wb) w (by have := h.le; rw [List.length_map]; omega)
  rwa [bw_map_wb] at this
theorem areKept_ev (t : List ND) (ht : t.length ≤ 2000000) (w : ByteArray) (hw : w.size ≤ 1000000) : Ev (fun k => impl_areKept.f k t w) (isT t && decide (okW (bw w))) := by
  unfold impl_areKept.f
  refine Ev.bind (isTrie_ev t ht) ?_
  cases isT t with
  | true => exact ev_pos rfl (Ev.bind (ev_of (isWord_eq w (by omega))) (ev_eq rfl))
  | false => exact ev_neg (by decide) (ev_eq rfl)
end Go.Proofs.YtcplbbflfgckbabGreatDoor.Pl
/- Plain: a trie that is made of words, on both sides. -/
namespace Go.Proofs.YtcplbbflfgckbabGreatDoor.Pl
open Go.RowKit Go.Ab.Pw Go.Proofs.YtcplbbflfgckbabGreatDoorW.PrintWords Go.Proofs.YtcplbbflfgckbabGreatDoorW.PrintLast Go.Proofs.YtcplbbflfgckbabGreatDoorW.PrintMore Go.Proofs.YtcplbbflfgckbabGreatDoor.X

/-! ### a trie of words -/
/-- What making a trie answers. -/
def ofR (L : List Wd) : List ND × Bool := if (setW L).length ≤ 40 then (trie (setW L), true) else ([], false)
theorem map_wb_bw (L : List ByteArray) : (L.map bw).map wb = L := by rw [List.map_map]; exact (List.map_congr_left fun x _ => wb_bw x).trans (List.map_id L)
theorem ofWords_i (L : List ByteArray) (hl : L.length ≤ 4000000) (hw : ∀ x ∈ L.map bw, okW x) : Ev (fun k => impl_ofWords.f k L) (ofR (L.map bw)) := by
  have hs := set_eq (L.map bw) (by rw [List.length_map]; exact hl)
  rw [map_wb_bw] at hs
  unfold impl_ofWords.f
  rw [hs]
  unfold ofR
  refine ev_some (ev_ite (fun hc => ?_) (fun hc => ?_))
  · rw [if_neg (by rw [List.length_map] at hc; omega)]; exact ev_eq rfl
  · rw [List.length_map] at hc
    rw [if_pos (by omega)]
    refine Ev.bind (trieOf_ev _ (by omega) ((setW_SS _).imp (fun h => (le_iff _ _).2 (.inl h))) (fun w h => ?_)) (ev_eq rfl)
    have := (hw w ((mem_setW _ _).1 h)).1
    omega
theorem wok_set {L : List Wd} (hw : ∀ x ∈ L, okW x) (hl : (setW L).length ≤ 40) : WOk (setW L) := ⟨setW_SS _, fun w h => hw w ((mem_setW _ _).1 h), hl⟩
/-! ### making -/
theorem anyM_of {α : Type} {F : α → Option Bool} {p : α → Bool} : ∀ {l : List α}, (∀ z ∈ l, F z = some (p z)) → G.anyM F l = some (l.any p)
  | [], _ => rfl
  | x :: l, h => by
    show ((F x).bind fun b => if b = true then some true else G.anyM F l) = some (p x || l.any p)
    rw [h x List.mem_cons_self, Option.bind_some]
    cases p x with
    | true => rfl
    | false => rw [if_neg (by decide)]; exact anyM_of fun z hz => h z (List.mem_cons_of_mem _ hz)
def makeR (L : List Wd) : List ND × Bool := if ∀ w ∈ L, okW w then ofR L else ([], false)
theorem make_i (L : List ByteArray) (hl : L.length ≤ 1000000) (hs : ∀ x ∈ L, x.size ≤ 1000000) : Ev (fun k => impl_TrieOf.f k L) (makeR (L.map bw)) := by
  unfold impl_TrieOf.f
  have ha := anyM_of (F := fun z_ => impl_TrieOf_1.f z_) (p := fun z => !decide (okW (bw z))) (l := L) (fun z hz => by
    unfold impl_TrieOf_1.f
    rw [isWord_eq z (by have := hs z hz; omega)]; rfl)
  refine Ev.bind (ev_of ha) ?_
  unfold makeR
  by_cases hok : ∀ w ∈ L.map bw, okW w
  · rw [if_pos hok]
    refine ev_neg ?_ (Ev.bind (ofWords_i L (by omega) hok) (ev_eq rfl))
    rw [List.any_eq_true]
    rintro ⟨x, hx, h⟩
    rw [decide_eq_true (hok _ (List.mem_map_of_mem hx))] at h
    exact absurd h (by decide)
  · rw [if_neg hok]
    refine ev_pos ?_ (ev_eq rfl)
    rw [List.any_eq_true]
    simp only [List.mem_map, forall_exists_index, and_imp, forall_apply_eq_imp_iff₂, Classical.not_forall] at hok
    obtain ⟨x, hx, h⟩ := hok
    exact ⟨x, hx, by rw [decide_eq_false h]; rfl⟩
theorem ofR_cases {L : List Wd} (h : ∀ w ∈ L, okW w) : (∃ ws, WOk ws ∧ setW L = ws ∧ ofR L = (trie ws, true)) ∨ ofR L = ([], false) := by
  unfold ofR
  by_cases hl : (setW L).length ≤ 40
  · rw [if_pos hl]; exact .inl ⟨_, wok_set h hl, rfl, rfl⟩
  · rw [if_neg hl]; exact .inr rfl
theorem ofR_len {L : List Wd} (h : ∀ w ∈ L, okW w) : (ofR L).1.length ≤ 482 := by
  rcases ofR_cases h with ⟨ws, h, _, e⟩ | e
  · rw [e]; have := h.len; show (trie ws).length ≤ 482; omega
  · rw [e]; exact Nat.zero_le _
theorem makeR_len (L : List Wd) : (makeR L).1.length ≤ 482 := by
  unfold makeR
  split
  · next h => exact ofR_len h
  · exact Nat.zero_le _
theorem l5Made_s (L : List ByteArray) (hl : L.length ≤ 1000000) (hs : ∀ x ∈ L, x.size ≤ 1000000) : Ev (fun k => spec_l5Made.f k L) (makeR (L.map bw)) := by
  unfold spec_l5Made.f
  refine Ev.bind (l2Set_ev L (by omega) (fun x hx => by have := hs x hx; omega)) ?_
  unfold makeR refSet ofR
  by_cases hok : ∀ w ∈ L.map bw, okW w
  · rw [if_pos hok, if_pos hok]
    by_cases hl : (setW (L.map bw)).length ≤ 40
    · rw [if_pos hl, decide_eq_true hl]
      exact ev_pos rfl (Ev.bind (l2Of_ev (setW (L.map bw)) (by omega) (fun w hw => by have := ((wok_set hok hl).ok w hw).1; omega)) (ev_eq rfl))
    · rw [if_neg hl, decide_eq_false hl]
      exact ev_neg (by simp) (ev_eq rfl)
  · rw [if_neg hok, if_neg hok]
    exact ev_neg (by decide) (ev_eq rfl)
theorem madeOf_i (L : List ByteArray) (hl : L.length ≤ 1000000) (hs : ∀ x ∈ L, x.size ≤ 1000000) : Ev (fun k => impl_madeOf.f k L) (makeR (L.map bw)) := by
  unfold impl_madeOf.f
  exact Ev.bind (make_i L hl hs) (ev_eq rfl)
end Go.Proofs.YtcplbbflfgckbabGreatDoor.Pl
/- Plain: sets of words: what two have in common, what one has alone, products, what is behind a prefix. -/
namespace Go.Proofs.YtcplbbflfgckbabGreatDoor.Pl
open Go.RowKit Go.Ab.Pw Go.Proofs.YtcplbbflfgckbabGreatDoorW.PrintWords Go.Proofs.YtcplbbflfgckbabGreatDoorW.PrintLast Go.Proofs.YtcplbbflfgckbabGreatDoorW.PrintMore
/-- The words of one list that another one has. -/
def meetL (ws vs : List Wd) : List Wd := ws.filter fun w => decide (w ∈ vs)
/-- The words of one list that another one has not. -/
def lessL (ws vs : List Wd) : List Wd := ws.filter fun w => !decide (w ∈ vs)
theorem mem_meet {ws vs : List Wd} {x : Wd} : x ∈ meetL ws vs ↔ x ∈ ws ∧ x ∈ vs := by unfold meetL; rw [List.mem_filter, decide_eq_true_eq]
theorem mem_less {ws vs : List Wd} {x : Wd} : x ∈ lessL ws vs ↔ x ∈ ws ∧ x ∉ vs := by unfold lessL; rw [List.mem_filter, Bool.not_eq_true', decide_eq_false_iff_not]
theorem WOk.filt {ws : List Wd} (h : WOk ws) (p : Wd → Bool) : WOk (ws.filter p) := ⟨h.ss.filter _, fun w hw => h.ok w (List.mem_filter.1 hw).1, Nat.le_trans (List.length_filter_le _ _) h.le⟩
theorem meet_less (ws vs : List Wd) : (meetL ws vs).length + (lessL ws vs).length = ws.length := by
  unfold meetL lessL
  induction ws with
  | nil => rfl
  | cons w ws ih =>
    rw [List.filter_cons, List.filter_cons, List.length_cons]
    by_cases h : w ∈ vs
    · simp only [h, decide_true, Bool.not_true, reduceIte, Bool.false_eq_true, List.length_cons]; omega
    · simp only [h, decide_false, Bool.not_false, reduceIte, Bool.false_eq_true, List.length_cons]; omega
theorem len_of_mem {l m : List Wd} (hl : l.Nodup) (hm : m.Nodup) (h : ∀ x, x ∈ l ↔ x ∈ m) : l.length = m.length := ((List.perm_ext_iff_of_nodup hl hm).2 h).length_eq
theorem meet_comm {ws vs : List Wd} (h : SS ws) (h2 : SS vs) : (meetL ws vs).length = (meetL vs ws).length :=
  len_of_mem (SS.nodup (h.filter _)) (SS.nodup (h2.filter _)) (fun x => by rw [mem_meet, mem_meet]; exact And.comm)
theorem join_len {ws vs : List Wd} (h : SS ws) (h2 : SS vs) : (setW (ws ++ vs)).length = ws.length + (lessL vs ws).length := by
  rw [← List.length_append]
  refine len_of_mem (setW_SS _).nodup ?_ (fun x => ?_)
  · refine List.nodup_append.2 ⟨h.nodup, SS.nodup (h2.filter _), fun a ha b hb e => ?_⟩
    subst e
    exact (mem_less.1 hb).2 ha
  · rw [mem_setW, List.mem_append, List.mem_append, mem_less]
    by_cases hx : x ∈ ws <;> simp [hx]
theorem less_nil {ws vs : List Wd} : (lessL ws vs).length = 0 ↔ ∀ x ∈ ws, x ∈ vs := by
  rw [List.length_eq_zero_iff]
  constructor
  · intro h x hx
    by_cases hv : x ∈ vs
    · exact hv
    · have := mem_less.2 ⟨hx, hv⟩
      rw [h] at this
      cases this
  · intro h
    rw [List.eq_nil_iff_forall_not_mem]
    exact fun x hx => (mem_less.1 hx).2 (h x (mem_less.1 hx).1)
/-- What is behind a prefix. -/
def behindL (ws : List Wd) (p : Wd) : List Wd := (underL ws p).map fun w => w.drop p.length
theorem mem_behind {ws : List Wd} {p x : Wd} : x ∈ behindL ws p ↔ p ++ x ∈ ws := by
  unfold behindL
  rw [List.mem_map]
  constructor
  · rintro ⟨w, hw, rfl⟩
    obtain ⟨h1, t, rfl⟩ := mem_under.1 hw
    rw [List.drop_left]; exact h1
  · exact fun h => ⟨p ++ x, mem_under.2 ⟨h, x, rfl⟩, List.drop_left⟩
theorem lt_front (p : Wd) {x y : Wd} : p ++ x < p ++ y ↔ x < y := by
  induction p with
  | nil => rfl
  | cons b p ih => rw [List.cons_append, List.cons_append, List.cons_lt_cons_iff]; simp [ih, UInt8.lt_irrefl]
theorem behind_SS {ws : List Wd} (h : SS ws) (p : Wd) : SS (behindL ws p) := by
  unfold behindL SS
  rw [List.pairwise_map]
  refine List.Pairwise.imp_of_mem (fun {a b} ha hb hlt => ?_) (under_SS h p)
  obtain ⟨_, s, rfl⟩ := mem_under.1 ha
  obtain ⟨_, t, rfl⟩ := mem_under.1 hb
  rw [List.drop_left, List.drop_left]
  exact (lt_front p).1 hlt
theorem WOk.behind {ws : List Wd} (h : WOk ws) (p : Wd) : WOk (behindL ws p) := by
  refine ⟨behind_SS h.ss p, fun w hw => ?_, ?_⟩
  · have := h.ok _ (mem_behind.1 hw)
    refine ⟨?_, fun b hb => this.2 b (List.mem_append_right _ hb)⟩
    have := this.1
    rw [List.length_append] at this
    omega
  · unfold behindL
    rw [List.length_map]
    exact Nat.le_trans (under_length _ _) h.le
theorem behind_len (ws : List Wd) (p : Wd) : (behindL ws p).length = (underL ws p).length := List.length_map _
/-- All products. -/
def timesL (ws vs : List Wd) : List Wd := ws.flatMap fun v => vs.map fun w => v ++ w
theorem mem_times {ws vs : List Wd} {x : Wd} : x ∈ timesL ws vs ↔ ∃ v ∈ ws, ∃ w ∈ vs, v ++ w = x := by
  unfold timesL
  simp only [List.mem_flatMap, List.mem_map]
theorem times_length (ws vs : List Wd) : (timesL ws vs).length = ws.length * vs.length := by
  unfold timesL
  induction ws with
  | nil => simp
  | cons w ws ih => rw [List.flatMap_cons, List.length_append, ih, List.length_map, List.length_cons]; rw [Nat.add_mul]; omega
theorem times_behind {ws vs : List Wd} {v : Wd} (hv : v ∈ ws) : ∀ x ∈ vs, x ∈ behindL (setW (timesL ws vs)) v := fun x hx => by
  rw [mem_behind, mem_setW, mem_times]
  exact ⟨v, hv, x, hx, rfl⟩
end Go.Proofs.YtcplbbflfgckbabGreatDoor.Pl
/- Plain: the draws answer. -/
namespace Go.Proofs.YtcplbbflfgckbabGreatDoor.Pl
open Go.RowKit Go.Ab.Pw Go.Proofs.YtcplbbflfgckbabGreatDoorW.PrintWords Go.Proofs.YtcplbbflfgckbabGreatDoorW.PrintLast Go.Proofs.YtcplbbflfgckbabGreatDoorW.PrintMore Go.Proofs.YtcplbbflfgckbabGreatDoor.X

/-- A code's bytes. -/
def isCodeB (l : List Int) : Prop := ∀ y ∈ l, 0 ≤ y ∧ y ≤ 255
theorem and255 {x : Int} (h0 : 0 ≤ x) (h1 : x < 2 ^ 63) : Go.bits .and .u64 x 255 = x % 256 := by
  have hw : ∀ n : Int, 0 ≤ n → n < 2 ^ 63 → IntKind.u64.wrap n = n := fun n a b => by simp only [IntKind.wrap, IntKind.bits, IntKind.signed]; simp; omega
  exact bits_mask .u64 63 (by decide) hw 8 (by decide) x h0 h1
theorem u64w (x : Int) : 0 ≤ IntKind.u64.wrap x ∧ IntKind.u64.wrap x < 18446744073709551616 := by
  simp only [IntKind.wrap, IntKind.bits, IntKind.signed]; simp; omega
/-- Where the draw stands: at most at n. -/
structure At (n : Nat) (a : Int) : Prop where
  lo : 0 ≤ a
  hi : a ≤ n
theorem At.le {n m : Nat} {a : Int} (h : At n a) (hm : n ≤ m) : At m a := ⟨h.lo, by have := h.hi; omega⟩
theorem next_ev {l : List Int} (hl : isCodeB l) {n : Nat} {a s : Int} (h : At n a) (hn : n ≤ 2000000000) : ∃ b a' s', spec_l1Cur_next.f l a s = some (b, a', s') ∧ At (n + 1) a' ∧ 0 ≤ b ∧ b ≤ 255 := by
  obtain ⟨h0, h1⟩ := h
  have hw := w64 (x := a + 1) (by omega) (by omega)
  have key : ∀ y : Int, 0 ≤ Go.bits .and .u64 (IntKind.u64.wrap y / 1099511627776) 255 ∧ Go.bits .and .u64 (IntKind.u64.wrap y / 1099511627776) 255 ≤ 255 := fun y => by
    have := u64w y
    rw [and255 (by omega) (by omega)]
    omega
  unfold spec_l1Cur_next.f
  rw [hw]
  by_cases h2 : a < (l.length : Int)
  · rw [if_pos h2, if_pos h0, if_pos (by omega)]
    have hm : 0 ≤ rd l a ∧ rd l a ≤ 255 := by
      obtain ⟨i, rfl⟩ : ∃ i : Nat, a = i := ⟨a.toNat, by omega⟩
      exact hl _ (getD_mem (by omega) 0)
    exact ⟨_, _, _, rfl, ⟨by omega, by omega⟩, by rw [w64 (by omega) (by omega)]; omega, by rw [w64 (by omega) (by omega)]; omega⟩
  · have kk : ∀ y : Int, wrap64 (Go.bits .and .u64 (IntKind.u64.wrap y / 1099511627776) 255) = Go.bits .and .u64 (IntKind.u64.wrap y / 1099511627776) 255 := fun y => by have := key y; exact w64 (by omega) (by omega)
    rw [if_neg h2, if_neg (by omega), kk]
    exact ⟨_, _, _, rfl, ⟨by omega, by omega⟩, (key _).1, (key _).2⟩
theorem tmod_lt {b n : Int} (h0 : 0 ≤ b) (h1 : 1 < n) : 0 ≤ Int.tmod b n ∧ Int.tmod b n < n := ⟨Int.tmod_nonneg _ h0, Int.tmod_lt_of_pos _ (by omega)⟩
theorem pick_ev {l : List Int} (hl : isCodeB l) {n : Nat} {a s : Int} (h : At n a) (hn : n ≤ 1000000000) (c : Int) : ∃ b a' s', spec_l1Cur_pick.f l a s c = some (b, a', s') ∧ At (n + 2) a' ∧ 0 ≤ b ∧ (1 ≤ c → b < c) := by
  unfold spec_l1Cur_pick.f
  by_cases h1 : c ≤ 1
  · rw [if_pos h1]; exact ⟨_, _, _, rfl, h.le (by omega), by omega, fun _ => by omega⟩
  · rw [if_neg h1]
    obtain ⟨b, a1, s1, e1, g1, b0, b1⟩ := next_ev hl (s := s) h (by omega)
    rw [e1]
    simp only [Option.bind_some]
    by_cases h2 : c > 200
    · rw [if_pos h2]
      obtain ⟨b', a2, s2, e2, g2, c0, c1⟩ := next_ev hl (s := s1) g1 (by omega)
      rw [e2]
      simp only [Option.bind_some]
      rw [if_neg (by omega), w64 (x := b * 256) (by omega) (by omega), w64 (x := b * 256 + b') (by omega) (by omega)]
      have := tmod_lt (b := b * 256 + b') (n := c) (by omega) (by omega)
      exact ⟨_, _, _, rfl, g2, this.1, fun _ => this.2⟩
    · rw [if_neg h2, if_neg (by omega)]
      have := tmod_lt (b := b) (n := c) (by omega) (by omega)
      exact ⟨_, _, _, rfl, g1.le (by omega), this.1, fun _ => this.2⟩
theorem one_ev {l : List Int} (hl : isCodeB l) {n : Nat} {a s : Int} (h : At n a) (hn : n ≤ 1000000000) (c : Int) : ∃ b a' s', spec_l1Cur_one.f l a s c = some (b, a', s') ∧ At (n + 2) a' := by
  unfold spec_l1Cur_one.f
  obtain ⟨b, a1, s1, e1, g1, _⟩ := pick_ev hl (s := s) h hn c
  rw [e1]
  exact ⟨_, _, _, rfl, g1⟩
theorem of_ev {l : List Int} (hl : isCodeB l) {n : Nat} {a s : Int} (h : At n a) (hn : n ≤ 1000000000) (ts : List ByteArray) (ht : 0 < ts.length) : ∃ b a' s', spec_l1Cur_of.f l a s ts = some (b, a', s') ∧ At (n + 2) a' ∧ b ∈ ts := by
  unfold spec_l1Cur_of.f
  obtain ⟨b, a1, s1, e1, g1, b0, b1⟩ := pick_ev hl (s := s) h hn (ts.length : Int)
  have hb := b1 (by omega)
  rw [e1]
  simp only [Option.bind_some]
  rw [if_pos b0, if_pos hb]
  refine ⟨_, _, _, rfl, g1, ?_⟩
  obtain ⟨i, rfl⟩ : ∃ i : Nat, b = i := ⟨b.toNat, by omega⟩
  exact getD_mem (by omega) _
theorem among_ev {l : List Int} (hl : isCodeB l) {n : Nat} {a s : Int} (h : At n a) (hn : n ≤ 1000000000) (ts : List Int) (ht : 0 < ts.length) : ∃ b a' s', spec_l1Cur_among.f l a s ts = some (b, a', s') ∧ At (n + 2) a' ∧ b ∈ ts := by
  unfold spec_l1Cur_among.f
  obtain ⟨b, a1, s1, e1, g1, b0, b1⟩ := pick_ev hl (s := s) h hn (ts.length : Int)
  have hb := b1 (by omega)
  rw [e1]
  simp only [Option.bind_some]
  rw [if_pos b0, if_pos hb]
  refine ⟨_, _, _, rfl, g1, ?_⟩
  obtain ⟨i, rfl⟩ : ∃ i : Nat, b = i := ⟨b.toNat, by omega⟩
  exact getD_mem (by omega) _
theorem vCut_ev {l : List Int} (hl : isCodeB l) (hn : l.length ≤ 65536) {c : Int} (h0 : 0 ≤ c) : ∃ l', laws_vCut.f l c = some l' ∧ isCodeB l' ∧ l'.length ≤ 65537 := by
  have fin : ∀ (xs : List Int) (b : Int), (∀ y ∈ xs, y ∈ l) → xs.length ≤ 65536 → 0 ≤ b → isCodeB (xs ++ [b % 256]) ∧ (xs ++ [b % 256]).length ≤ 65537 := by
    intro xs b hx hlen _
    refine ⟨fun y hy => ?_, by simp; omega⟩
    rcases List.mem_append.1 hy with h | h
    · exact hl y (hx y h)
    · rw [List.mem_singleton.1 h]; omega
  unfold laws_vCut.f
  simp only [Option.bind_some, List.nil_append, List.length_nil]
  by_cases h1 : c > (l.length : Int)
  · rw [if_pos h1, if_pos (by omega), if_pos (by omega), if_pos (by rw [List.length_drop]; omega), if_pos (by rw [List.length_drop]; omega)]
    exact ⟨_, rfl, fin _ _ (fun y hy => List.mem_of_mem_drop hy) (by rw [List.length_drop]; omega) (by omega)⟩
  · rw [if_neg h1, if_pos h0, if_pos (by omega), if_pos (by rw [List.length_drop]; omega), if_pos (by rw [List.length_drop]; omega)]
    exact ⟨_, rfl, fin _ _ (fun y hy => List.mem_of_mem_drop hy) (by rw [List.length_drop]; omega) h0⟩
end Go.Proofs.YtcplbbflfgckbabGreatDoor.Pl
/- Plain: draws as steps: what is drawn answers, where the draw stands behind it, and what is known of it. -/
namespace Go.Proofs.YtcplbbflfgckbabGreatDoor.Pl
open Go.RowKit Go.Ab.Pw Go.Proofs.YtcplbbflfgckbabGreatDoorW.PrintWords Go.Proofs.YtcplbbflfgckbabGreatDoorW.PrintLast Go.Proofs.YtcplbbflfgckbabGreatDoorW.PrintMore Go.Proofs.YtcplbbflfgckbabGreatDoor.X

/-- F draws an x that is so; behind it the draw stands at most at n. -/
def Dr {α : Type} (F : Nat → Option (α × Int × Int)) (n : Nat) (Q : α → Prop) : Prop := ∃ x a s, Ev F (x, a, s) ∧ At n a ∧ Q x
section
variable {α β : Type} {F A B : Nat → Option (α × Int × Int)} {n m : Nat} {Q : α → Prop}
theorem Dr.bind {G : Nat → α × Int × Int → Option (β × Int × Int)} {R : β → Prop} (h : Dr F n Q) (hg : ∀ x a s, At n a → Q x → Dr (fun k => G k (x, a, s)) m R) : Dr (fun k => (F k).bind (G k)) m R := by
  obtain ⟨x, a, s, h1, h2, h3⟩ := h
  obtain ⟨y, b, t, g1, g2, g3⟩ := hg x a s h2 h3
  exact ⟨y, b, t, Ev.bind h1 g1, g2, g3⟩
theorem Dr.fin {γ : Type} {G : Nat → α × Int × Int → Option γ} {R : γ → Prop} (h : Dr F n Q) (hg : ∀ x a s, At n a → Q x → ∃ r, Ev (fun k => G k (x, a, s)) r ∧ R r) : ∃ r, Ev (fun k => (F k).bind (G k)) r ∧ R r := by
  obtain ⟨x, a, s, h1, h2, h3⟩ := h
  obtain ⟨r, g1, g2⟩ := hg x a s h2 h3
  exact ⟨r, Ev.bind h1 g1, g2⟩
/-- A step that draws nothing. -/
theorem Dr.ev {γ : Type} {C : Nat → Option γ} {c : γ} {G : Nat → γ → Option (α × Int × Int)} (h : Ev C c) (hg : Dr (fun k => G k c) n Q) : Dr (fun k => (C k).bind (G k)) n Q := by
  obtain ⟨y, b, t, g1, g2, g3⟩ := hg
  exact ⟨y, b, t, Ev.bind h g1, g2, g3⟩
theorem Dr.le {R : α → Prop} (h : Dr F n Q) (hm : n ≤ m) (hR : ∀ x, Q x → R x) : Dr F m R := by
  obtain ⟨x, a, s, h1, h2, h3⟩ := h
  exact ⟨x, a, s, h1, h2.le hm, hR x h3⟩
theorem Dr.ret {x : α} {a s : Int} (h : At n a) (hx : Q x) : Dr (fun _ => some (x, a, s)) n Q := ⟨x, a, s, ev_eq rfl, h, hx⟩
theorem Dr.pos {c : Prop} [Decidable c] (hc : c) (h : Dr A n Q) : Dr (fun k => if c then A k else B k) n Q := by
  obtain ⟨x, a, s, h1, h2, h3⟩ := h
  exact ⟨x, a, s, ev_pos hc h1, h2, h3⟩
theorem Dr.neg {c : Prop} [Decidable c] (hc : ¬ c) (h : Dr B n Q) : Dr (fun k => if c then A k else B k) n Q := by
  obtain ⟨x, a, s, h1, h2, h3⟩ := h
  exact ⟨x, a, s, ev_neg hc h1, h2, h3⟩
theorem Dr.ite {c : Prop} [Decidable c] (hp : c → Dr A n Q) (hn : ¬ c → Dr B n Q) : Dr (fun k => if c then A k else B k) n Q := by
  by_cases hc : c
  · exact (hp hc).pos hc
  · exact (hn hc).neg hc
theorem Dr.step {G : Nat → Option (α × Int × Int)} (e : ∀ k, F (k + 1) = G k) (h : Dr G n Q) : Dr F n Q := by
  obtain ⟨x, a, s, h1, h2, h3⟩ := h
  exact ⟨x, a, s, Ev.step e h1, h2, h3⟩
end
theorem ev_eq' {α : Type} {x : Option α} {r : α} (h : x = some r) : Ev (fun _ => x) r := h ▸ Ev.now r
theorem small_mem' {ts : List ByteArray} {b : ByteArray} {m : Nat} (h : b ∈ ts) (hs : ts.all (fun t => decide (t.size ≤ m)) = true) : b.size ≤ m := of_decide_eq_true (List.all_eq_true.1 hs b h)
theorem pick_dr {l : List Int} (hl : isCodeB l) {n : Nat} {a s : Int} (h : At n a) (hn : n ≤ 1000000000) (c : Int) : Dr (fun _ => spec_l1Cur_pick.f l a s c) (n + 2) (fun b => 0 ≤ b ∧ (1 ≤ c → b < c)) := by
  obtain ⟨b, a1, s1, e, g, h1, h2⟩ := pick_ev hl (s := s) h hn c
  exact ⟨b, a1, s1, ev_eq' e, g, h1, h2⟩
theorem one_dr {l : List Int} (hl : isCodeB l) {n : Nat} {a s : Int} (h : At n a) (hn : n ≤ 1000000000) (c : Int) : Dr (fun _ => spec_l1Cur_one.f l a s c) (n + 2) (fun _ => True) := by
  obtain ⟨b, a1, s1, e, g⟩ := one_ev hl (s := s) h hn c
  exact ⟨b, a1, s1, ev_eq' e, g, trivial⟩
theorem of_dr {l : List Int} (hl : isCodeB l) {n : Nat} {a s : Int} (h : At n a) (hn : n ≤ 1000000000) (ts : List ByteArray) (ht : 0 < ts.length) : Dr (fun _ => spec_l1Cur_of.f l a s ts) (n + 2) (fun b => b ∈ ts) := by
  obtain ⟨b, a1, s1, e, g, h1⟩ := of_ev hl (s := s) h hn ts ht
  exact ⟨b, a1, s1, ev_eq' e, g, h1⟩
theorem among_dr {l : List Int} (hl : isCodeB l) {n : Nat} {a s : Int} (h : At n a) (hn : n ≤ 1000000000) (ts : List Int) (ht : 0 < ts.length) : Dr (fun _ => spec_l1Cur_among.f l a s ts) (n + 2) (fun b => b ∈ ts) := by
  obtain ⟨b, a1, s1, e, g, h1⟩ := among_ev hl (s := s) h hn ts ht
  exact ⟨b, a1, s1, ev_eq' e, g, h1⟩
theorem code_of_wf' {l : List Int} (h : ∀ y ∈ l, (Lit.int .u8 y).wf = true) : isCodeB l := fun y hy => by
  have := h y hy
  simp [Lit.wf, IntKind.min, IntKind.max, IntKind.signed, IntKind.bits] at this
  omega
end Go.Proofs.YtcplbbflfgckbabGreatDoor.Pl
/- Plain: the draws of words and of tries answer. -/
namespace Go.Proofs.YtcplbbflfgckbabGreatDoor.Pl
open Go.RowKit Go.Ab.Pw Go.Proofs.YtcplbbflfgckbabGreatDoorW.PrintWords Go.Proofs.YtcplbbflfgckbabGreatDoorW.PrintLast Go.Proofs.YtcplbbflfgckbabGreatDoorW.PrintMore Go.Proofs.YtcplbbflfgckbabGreatDoor.X

theorem At.zero : At 0 0 := ⟨by omega, by omega⟩
theorem word_dr {l : List Int} (hl : isCodeB l) {n : Nat} {a s : Int} (h : At n a) (hn : n ≤ 900000) : Dr (fun k => spec_l1Cur_word.f k l a s) (n + 40) (fun w => w.size ≤ 25) := by
  unfold spec_l1Cur_word.f
  refine Dr.bind (among_dr hl h (by omega) _ (by decide)) fun c a1 s1 g1 hc => ?_
  have hc2 : 0 ≤ c ∧ c ≤ 12 := by
    simp only [List.mem_cons, List.not_mem_nil, or_false] at hc
    omega
  obtain ⟨m, rfl⟩ : ∃ m : Nat, c = m := ⟨c.toNat, by omega⟩
  have hm : m ≤ 12 := by omega
  clear hc hc2
  dsimp only
  have key : ∀ (m : Nat) (x : ByteArray) (p : Nat) (a s : Int), At p a → p + 2 * m ≤ 1000000 → x.size + m ≤ 12 → Dr (fun k => spec_l1Cur_word.l0 k x (m : Int) l a s) (p + 2 * m + 4) (fun w => w.size ≤ 25) := by
    intro m
    induction m with
    | zero =>
      intro x p a s g hp hx
      refine Dr.step (fun k => by unfold spec_l1Cur_word.l0; rfl) (Dr.neg (by omega) ?_)
      refine Dr.bind (one_dr hl g (by omega) 50) fun b a2 s2 g2 _ => ?_
      dsimp only
      refine Dr.ite (fun _ => ?_) (fun _ => (Dr.ret g2 (by omega)).le (by omega) (fun _ h => h))
      refine Dr.bind (of_dr hl g2 (by omega) _ (by decide)) fun y a3 s3 g3 hy => ?_
      have hy2 := small_mem' (m := 13) hy (by decide)
      dsimp only
      refine Dr.pos (by omega) ((Dr.ret g3 (by rw [ByteArray.size_append]; omega)).le (by omega) (fun _ h => h))
    | succ m ih =>
      intro x p a s g hp hx
      refine Dr.step (fun k => by unfold spec_l1Cur_word.l0; rfl) (Dr.pos (by omega) ?_)
      refine Dr.bind (of_dr hl g (by omega) _ (by decide)) fun y a3 s3 g3 hy => ?_
      have hy2 := small_mem' (m := 1) hy (by decide)
      have hdec : wrap64 (((m + 1 : Nat) : Int) - 1) = (m : Int) := by rw [w64 (by omega) (by omega)]; omega
      dsimp only
      rw [hdec]
      refine Dr.pos (by omega) ((ih (x ++ y) (p + 2) a3 s3 g3 (by omega) (by rw [ByteArray.size_append]; omega)).le (by omega) (fun _ h => h))
  exact (key m _ _ a1 s1 g1 (by omega) (by show (⟨#[]⟩ : ByteArray).size + m ≤ 12; show 0 + m ≤ 12; omega)).le (by omega) (fun _ h => h)
theorem words_dr {l : List Int} (hl : isCodeB l) {n : Nat} {a s : Int} (h : At n a) (hn : n ≤ 800000) : Dr (fun k => spec_l1Cur_words.f k l a s) (n + 1000) (fun ws => ws.length ≤ 60 ∧ ∀ w ∈ ws, w.size ≤ 25) := by
  unfold spec_l1Cur_words.f
  refine Dr.bind (among_dr hl h (by omega) _ (by decide)) fun c a1 s1 g1 hc => ?_
  have hc2 : 0 ≤ c ∧ c ≤ 12 := by
    simp only [List.mem_cons, List.not_mem_nil, or_false] at hc
    omega
  obtain ⟨m, rfl⟩ : ∃ m : Nat, c = m := ⟨c.toNat, by omega⟩
  have hm : m ≤ 12 := by omega
  clear hc hc2
  dsimp only
  have snoc : ∀ {ws : List ByteArray} {w : ByteArray}, (∀ x ∈ ws, x.size ≤ 25) → w.size ≤ 25 → ∀ x ∈ ws ++ [w], x.size ≤ 25 := fun h1 h2 x hx => by
    rcases List.mem_append.1 hx with h | h
    · exact h1 x h
    · rw [List.mem_singleton.1 h]; exact h2
  -- the many
  have many : ∀ (i : Nat) (ws : List ByteArray) (p : Nat) (a s : Int), i ≤ 41 → At p a → ws.length ≤ 60 - i → (∀ w ∈ ws, w.size ≤ 25) → Dr (fun k => spec_l1Cur_words.l1 k ws ((41 - i : Nat) : Int) l a s) p (fun ws => ws.length ≤ 60 ∧ ∀ w ∈ ws, w.size ≤ 25) := by
    intro i
    induction i with
    | zero =>
      intro ws p a s hi g h1 h2
      exact Dr.step (fun k => by unfold spec_l1Cur_words.l1; rfl) (Dr.neg (by omega) (Dr.ret g ⟨by omega, h2⟩))
    | succ i ih =>
      intro ws p a s hi g h1 h2
      have hw : wrap64 (((41 - (i + 1) : Nat) : Int) + 1) = ((41 - i : Nat) : Int) := by rw [w64 (by omega) (by omega)]; omega
      refine Dr.step (fun k => by unfold spec_l1Cur_words.l1; rfl) (Dr.pos (by omega) (Dr.pos (by omega) ?_))
      rw [hw]
      exact ih _ p a s (by omega) g (by rw [List.length_append]; simp only [List.length_cons, List.length_nil]; omega) (snoc h2 (by show (2 : Nat) ≤ 25; omega))
  -- behind one
  have key : ∀ (m : Nat) (ws : List ByteArray) (p : Nat) (a s : Int), At p a → p + 60 * m ≤ 900000 → ws.length + m ≤ 12 → (∀ w ∈ ws, w.size ≤ 25) → Dr (fun k => spec_l1Cur_words.l0 k ws (m : Int) l a s) (p + 60 * m + 4) (fun ws => ws.length ≤ 60 ∧ ∀ w ∈ ws, w.size ≤ 25) := by
    intro m
    induction m with
    | zero =>
      intro ws p a s g hp h1 h2
      refine Dr.step (fun k => by unfold spec_l1Cur_words.l0; rfl) (Dr.neg (by omega) ?_)
      refine Dr.bind (one_dr hl g (by omega) 40) fun b a2 s2 g2 _ => ?_
      dsimp only
      refine Dr.ite (fun _ => ?_) (fun _ => (Dr.ret g2 ⟨by omega, h2⟩).le (by omega) (fun _ h => h))
      exact (many 41 ws _ a2 s2 (by omega) g2 (by omega) h2).le (by omega) (fun _ h => h)
    | succ m ih =>
      intro ws p a s g hp h1 h2
      have hdec : wrap64 (((m + 1 : Nat) : Int) - 1) = (m : Int) := by rw [w64 (by omega) (by omega)]; omega
      have next : ∀ (w : ByteArray) (q : Nat) (a s : Int), w.size ≤ 25 → At q a → q ≤ p + 56 → Dr (fun k => spec_l1Cur_words.l0 k (ws ++ [w]) (wrap64 (((m + 1 : Nat) : Int) - 1)) l a s) (p + 60 * (m + 1) + 4) (fun ws => ws.length ≤ 60 ∧ ∀ w ∈ ws, w.size ≤ 25) := by
        intro w q a s hw hq hqp
        rw [hdec]
        exact (ih (ws ++ [w]) q a s hq (by omega) (by rw [List.length_append]; simp only [List.length_cons, List.length_nil]; omega) (snoc h2 hw)).le (by omega) (fun _ h => h)
      refine Dr.step (fun k => by unfold spec_l1Cur_words.l0; rfl) (Dr.pos (by omega) ?_)
      refine Dr.bind (word_dr hl g (by omega)) fun w a2 s2 g2 hw => ?_
      dsimp only
      have j2 : ∀ (w : ByteArray) (b : Bool) (q : Nat) (a s : Int), w.size ≤ 25 → (b = true → w.size < 12) → At q a → q ≤ p + 50 → Dr (fun k => spec_l1Cur_words.j2 k ws ((m + 1 : Nat) : Int) w b l a s) (p + 60 * (m + 1) + 4) (fun ws => ws.length ≤ 60 ∧ ∀ w ∈ ws, w.size ≤ 25) := by
        intro w b q a s hw hb hq hqp
        refine Dr.step (fun k => by unfold spec_l1Cur_words.j2; rfl) (Dr.ite (fun hb2 => ?_) (fun _ => Dr.ite (fun h0 => ?_) (fun _ => ?_)))
        · refine Dr.bind (of_dr hl hq (by omega) _ (by decide)) fun y a3 s3 g3 hy => ?_
          have hy2 := small_mem' (m := 1) hy (by decide)
          have := hb hb2
          dsimp only
          exact Dr.pos (by omega) (Dr.pos (by omega) (next _ _ a3 s3 (by rw [ByteArray.size_append]; omega) g3 (by omega)))
        · rw [w64 (by omega) (by omega)]
          exact Dr.pos (by omega) (Dr.pos (by omega) (Dr.pos (by omega) (next _ _ a s (by rw [ByteArray.size_extract]; omega) hq (by omega))))
        · exact Dr.pos (by omega) (next _ _ a s hw hq (by omega))
      have j1 : ∀ (b : Bool) (q : Nat) (a s : Int), (b = true → 0 < ws.length) → At q a → q ≤ p + 44 → Dr (fun k => spec_l1Cur_words.j1 k ws ((m + 1 : Nat) : Int) w b l a s) (p + 60 * (m + 1) + 4) (fun ws => ws.length ≤ 60 ∧ ∀ w ∈ ws, w.size ≤ 25) := by
        intro b q a s hb hq hqp
        refine Dr.step (fun k => by unfold spec_l1Cur_words.j1; rfl) (Dr.ite (fun hb2 => ?_) (fun _ => ?_))
        · refine Dr.bind (pick_dr hl hq (by omega) _) fun i a3 s3 g3 hi => ?_
          have := hb hb2
          have hi2 := hi.2 (by omega)
          dsimp only
          refine Dr.pos hi.1 (Dr.pos hi2 ?_)
          obtain ⟨i, rfl⟩ : ∃ j : Nat, i = j := ⟨i.toNat, by omega⟩
          have hm : rdOf ByteArray.empty ws (i : Int) ∈ ws := getD_mem (by omega) _
          refine Dr.bind (one_dr hl g3 (by omega) 2) fun c a4 s4 g4 _ => ?_
          dsimp only
          refine Dr.ite (fun _ => ?_) (fun _ => ?_)
          · exact j2 _ _ _ a4 s4 (h2 _ hm) (fun hd => by have := of_decide_eq_true hd; omega) g4 (by omega)
          · exact j2 _ _ _ a4 s4 (h2 _ hm) (fun hd => absurd hd (by decide)) g4 (by omega)
        · exact Dr.pos (by omega) (next _ _ a s hw hq (by omega))
      refine Dr.ite (fun h0 => ?_) (fun _ => j1 _ _ a2 s2 (fun hd => absurd hd (by decide)) g2 (by omega))
      refine Dr.bind (one_dr hl g2 (by omega) 3) fun c a3 s3 g3 _ => ?_
      dsimp only
      exact j1 _ _ a3 s3 (fun _ => by omega) g3 (by omega)
  exact (key m _ _ a1 s1 g1 (by omega) (by simp; omega) (by simp)).le (by omega) (fun _ h => h)
theorem trie_dr {l : List Int} (hl : isCodeB l) {n : Nat} {a s : Int} (h : At n a) (hn : n ≤ 700000) : Dr (fun k => spec_l1Cur_trie.f k l a s) (n + 1010) (fun t => t.length ≤ 482) := by
  unfold spec_l1Cur_trie.f
  refine Dr.bind (words_dr hl h (by omega)) fun ws a1 s1 g1 hw => ?_
  dsimp only
  refine Dr.ev (l2Set_ev ws (by omega) (fun x hx => by have := hw.2 x hx; omega)) ?_
  dsimp only
  unfold refSet
  by_cases hok : ∀ w ∈ ws.map bw, okW w
  case neg => rw [if_neg hok]; exact Dr.neg (by decide) ((Dr.ret g1 (by simp)).le (by omega) (fun _ h => h))
  rw [if_pos hok]
  refine Dr.ite (fun h40 => ?_) (fun _ => (Dr.ret g1 (by simp)).le (by omega) (fun _ h => h))
  have h40' : (setW (ws.map bw)).length ≤ 40 := of_decide_eq_true h40
  have hok2 : ∀ w ∈ setW (ws.map bw), okW w := fun w hx => hok w ((mem_setW _ w).1 hx)
  dsimp only
  refine Dr.ev (l2Of_ev _ (by omega) (fun w hx => by have := (hok2 w hx).1; omega)) ?_
  obtain ⟨b1, b2⟩ := trie_bound hok2 h40'
  generalize trie (setW (ws.map bw)) = t at b1 b2
  refine Dr.bind (pick_dr hl g1 (by omega) 60) fun c a2 s2 g2 hc => ?_
  dsimp only
  have fin : ∀ (i : Int) (x : ND) (q : Nat) (a s : Int), 0 ≤ i ∧ (1 ≤ (t.length : Int) → i < (t.length : Int)) → At q a → q ≤ n + 1010 → Dr (fun _ => if 0 ≤ i then (if i < (t.length : Int) then some (t.set i.toNat x, a, s) else none) else none) (n + 1010) (fun t => t.length ≤ 482) := by
    intro i x q a s hi hq hqn
    exact Dr.pos hi.1 (Dr.pos (hi.2 (by omega)) ((Dr.ret hq (by simp; omega)).le hqn (fun _ h => h)))
  refine Dr.ite (fun _ => ?_) (fun _ => Dr.ite (fun _ => ?_) (fun _ => Dr.ite (fun _ => ?_) (fun _ => Dr.ite (fun _ => ?_) (fun _ => ?_))))
  · refine Dr.bind (pick_dr hl g2 (by omega) _) fun i a3 s3 g3 hi => ?_
    refine Dr.bind (one_dr hl g3 (by omega) 2) fun b a4 s4 g4 _ => ?_
    exact fin i _ _ a4 s4 hi g4 (by omega)
  · refine Dr.bind (pick_dr hl g2 (by omega) _) fun i a3 s3 g3 hi => ?_
    refine Dr.bind (among_dr hl g3 (by omega) _ (by simp)) fun b a4 s4 g4 _ => ?_
    exact fin i _ _ a4 s4 hi g4 (by omega)
  · refine Dr.bind (pick_dr hl g2 (by omega) _) fun i a3 s3 g3 hi => ?_
    refine Dr.bind (among_dr hl g3 (by omega) _ (by simp)) fun b a4 s4 g4 _ => ?_
    exact fin i _ _ a4 s4 hi g4 (by omega)
  · refine Dr.bind (one_dr hl g2 (by omega) 2) fun b a4 s4 g4 _ => ?_
    exact Dr.pos (by omega) ((Dr.ret g4 (by rw [List.length_append]; simp only [List.length_cons, List.length_nil]; omega)).le (by omega) (fun _ h => h))
  · exact (Dr.ret g2 (by omega)).le (by omega) (fun _ h => h)
theorem wordOf_dr {l : List Int} (hl : isCodeB l) {n : Nat} {a s : Int} (h : At n a) (hn : n ≤ 700000) (t : List ND) (ht : t.length ≤ 482) : Dr (fun k => spec_l1Cur_wordOf.f k l a s t) (n + 60) (fun w => w.size ≤ 25) := by
  unfold spec_l1Cur_wordOf.f
  have j1 : ∀ (w : ByteArray) (b : Bool) (q : Nat) (a s : Int), w.size ≤ 13 → At q a → q ≤ n + 10 → Dr (fun k => spec_l1Cur_wordOf.j1 k w b l a s) (n + 60) (fun w => w.size ≤ 25) := by
    intro w b q a s hw hq hqn
    refine Dr.step (fun k => by unfold spec_l1Cur_wordOf.j1; rfl) (Dr.ite (fun _ => ?_) (fun _ => (Dr.ret hq (by omega)).le (by omega) (fun _ h => h)))
    refine Dr.bind (of_dr hl hq (by omega) _ (by decide)) fun y a3 s3 g3 hy => ?_
    have hy2 := small_mem' (m := 1) hy (by decide)
    exact Dr.pos (by dsimp only; omega) ((Dr.ret g3 (by dsimp only; rw [ByteArray.size_append]; omega)).le (by omega) (fun _ h => h))
  have j0 : ∀ (b : Bool) (q : Nat) (a s : Int), (b = true → 0 < t.length) → At q a → q ≤ n + 4 → Dr (fun k => spec_l1Cur_wordOf.j0 k (t.length : Int) b l a s t) (n + 60) (fun w => w.size ≤ 25) := by
    intro b q a s hb hq hqn
    refine Dr.step (fun k => by unfold spec_l1Cur_wordOf.j0; rfl) (Dr.ite (fun hb2 => ?_) (fun _ => ?_))
    · have := hb hb2
      refine Dr.bind (pick_dr hl hq (by omega) _) fun i a3 s3 g3 hi => ?_
      have hi2 := hi.2 (by omega)
      obtain ⟨i, rfl⟩ : ∃ j : Nat, i = j := ⟨i.toNat, by omega⟩
      obtain ⟨r, hr1, hr2, _⟩ := l2Prefix_ev t (by omega) i (by omega)
      refine Dr.ev hr1 ?_
      refine Dr.bind (one_dr hl g3 (by omega) 4) fun c a4 s4 g4 _ => ?_
      exact Dr.ite (fun _ => j1 _ _ _ a4 s4 hr2 g4 (by omega)) (fun _ => j1 _ _ _ a4 s4 hr2 g4 (by omega))
    · refine Dr.bind (word_dr hl hq (by omega)) fun w a3 s3 g3 hw => ?_
      dsimp only at hw ⊢
      exact (Dr.ret (Q := fun w : ByteArray => w.size ≤ 25) g3 hw).le (by omega) (fun _ h => h)
  refine Dr.ite (fun h0 => ?_) (fun _ => j0 _ _ a s (fun hd => absurd hd (by decide)) h (by omega))
  refine Dr.bind (one_dr hl h (by omega) 3) fun c a3 s3 g3 _ => ?_
  refine Dr.ite (fun _ => j0 _ _ a3 s3 (fun hd => absurd hd (by decide)) g3 (by omega)) (fun _ => ?_)
  exact Dr.ev (l2Trie_ev t (by omega)) (j0 _ _ a3 s3 (fun _ => by omega) g3 (by omega))
end Go.Proofs.YtcplbbflfgckbabGreatDoor.Pl
/- Plain: a full trie drawn, and two tries drawn. -/
namespace Go.Proofs.YtcplbbflfgckbabGreatDoor.Pl
open Go.RowKit Go.Ab.Pw Go.Proofs.YtcplbbflfgckbabGreatDoorW.PrintWords Go.Proofs.YtcplbbflfgckbabGreatDoorW.PrintLast Go.Proofs.YtcplbbflfgckbabGreatDoorW.PrintMore Go.Proofs.YtcplbbflfgckbabGreatDoor.X

theorem full_dr {l : List Int} (hl : isCodeB l) {n : Nat} {a s : Int} (h : At n a) (hn : n ≤ 700000) : Dr (fun k => spec_l1Cur_full.f k l a s) (n + 2) (fun t => t.length ≤ 482) := by
  unfold spec_l1Cur_full.f
  refine Dr.bind (pick_dr hl h (by omega) 2) fun c a1 s1 g1 hc => ?_
  dsimp only
  have hc2 := hc.2 (by omega)
  rw [w64 (by omega) (by omega)]
  obtain ⟨m, hm⟩ : ∃ m : Nat, 39 + c = m := ⟨(39 + c).toNat, by omega⟩
  rw [hm]
  have hm2 : m ≤ 40 := by omega
  have key : ∀ d i, m - i = d → i ≤ m → ∀ A : List Wd, A.length ≤ i → (∀ w ∈ A, w.length ≤ 2) → Dr (fun k => spec_l1Cur_full.l0 k (A.map wb) (m : Nat) (i : Nat) l a1 s1) (n + 2) (fun t => t.length ≤ 482) := by
    intro d
    induction d with
    | zero =>
      intro i hd hi A hA hw
      refine Dr.step (fun k => by unfold spec_l1Cur_full.l0; rfl) (Dr.neg (by omega) (Dr.ev (l2Of_ev A (by omega) (fun w hx => by have := hw w hx; omega)) (Dr.ret g1 ?_)))
      rw [trie_length]
      have := prefs_length hw
      omega
    | succ d ih =>
      intro i hd hi A hA hw
      refine Dr.step (fun k => by unfold spec_l1Cur_full.l0; rfl) (Dr.pos (by omega) ?_)
      generalize hst : strOfNums _ = x
      have hx : x.size = 2 := by rw [← hst]; rfl
      have hp := l2Put_ev (A.map wb) x (by rw [List.length_map]; omega) (fun y hy => by
        obtain ⟨v, hv, rfl⟩ := List.mem_map.1 hy
        have := hw v hv
        rw [wb_size]; omega) (by omega)
      rw [bw_map_wb] at hp
      refine Dr.ev hp ?_
      rw [inc (by omega)]
      refine ih (i + 1) (by omega) (by omega) _ (by have := ins_length A (bw x); omega) (fun w hx2 => ?_)
      rcases (mem_ins _ _ _).1 hx2 with rfl | hx2
      · rw [bw_size]; omega
      · exact hw w hx2
  exact key _ 0 rfl (Nat.zero_le _) [] (Nat.zero_le _) (fun w hx => by cases hx)
theorem two_yes {ws vs : List Wd} (h : WOk ws) (h2 : WOk vs) : Ev (fun k => spec_l5Two.f k (trie ws) (trie vs)) true := by
  unfold spec_l5Two.f
  exact Ev.bind h.l2Trie (ev_pos rfl (Ev.bind h2.l2Trie (ev_eq rfl)))
theorem two_no {a b : List ND} (ha : a.length ≤ 2000000) (hb : b.length ≤ 2000000) (h : ¬ (isT a = true ∧ isT b = true)) : Ev (fun k => spec_l5Two.f k a b) false := by
  unfold spec_l5Two.f
  refine Ev.bind (l2Trie_ev a ha) ?_
  cases hA : isT a with
  | false => exact ev_neg (by decide) (ev_eq rfl)
  | true =>
    refine ev_pos rfl (Ev.bind (l2Trie_ev b hb) (ev_eq ?_))
    cases hB : isT b with
    | false => rfl
    | true => exact absurd ⟨hA, hB⟩ h
theorem two5_ev {l : List Int} (hl : isCodeB l) {n : Nat} {a s : Int} (h : At n a) (hn : n ≤ 600000) : ∃ r, Ev (fun k => spec_l1Cur_two5.f k l a s) r ∧ (r.1.length ≤ 482 ∧ r.2.1.length ≤ 482) := by
  unfold spec_l1Cur_two5.f
  refine Dr.fin (trie_dr hl h (by omega)) fun t a1 s1 g1 ht => ?_
  dsimp only
  refine Dr.fin (trie_dr hl g1 (by omega)) fun u a2 s2 g2 hu => ?_
  dsimp only
  have no : ∀ a3 s3, Ev (fun k => spec_l1Cur_two5.j0 k false l a3 s3 t u) (t, u, a3, s3) := fun a3 s3 => Ev.step (fun k => by unfold spec_l1Cur_two5.j0; rfl) (ev_neg (by decide) (ev_eq rfl))
  rcases isT_cases t with ⟨ws, hw, rfl⟩ | e
  · rcases isT_cases u with ⟨vs, hv, rfl⟩ | e
    · obtain ⟨b, a3, s3, h1, g3, _⟩ := one_dr hl g2 (s := s2) (by omega) 3
      have hj : ∃ r, Ev (fun k => spec_l1Cur_two5.j0 k (!b) l a3 s3 (trie ws) (trie vs)) r ∧ (r.1.length ≤ 482 ∧ r.2.1.length ≤ 482) := by
        cases b with
        | true => exact ⟨_, no a3 s3, ht, hu⟩
        | false =>
          have hle := hw.le
          have key : ∀ d i, ws.length - i = d → i ≤ ws.length → ∀ (A : List Wd), A.length ≤ 40 → (∀ w ∈ A, w.length ≤ 12) → ∀ (m : Nat) (a s : Int), At m a → m + 2 * d ≤ 800000 → ∃ r, Ev (fun k => spec_l1Cur_two5.l0 k (A.map wb) (ws.map wb) (i : Nat) l a s (trie ws)) r ∧ (r.1.length ≤ 482 ∧ r.2.1.length ≤ 482) := by
            have fin : ∀ (A : List Wd) (i : Nat) (a s : Int), A.length ≤ 40 → (∀ w ∈ A, w.length ≤ 12) → ∃ r, Ev (fun k => spec_l1Cur_two5.j2 k (A.map wb) (ws.map wb) (i : Nat) false l a s (trie ws)) r ∧ (r.1.length ≤ 482 ∧ r.2.1.length ≤ 482) := fun A i a s hA hs =>
              ⟨_, Ev.step (fun k => by unfold spec_l1Cur_two5.j2; rfl) (ev_neg (by decide) (Ev.bind (l2Of_ev A (by omega) (fun w hx => by have := hs w hx; omega)) (ev_eq rfl))), ht, by
                show (trie A).length ≤ 482
                rw [trie_length]
                have := prefs_length hs
                omega⟩
            intro d
            induction d with
            | zero =>
              intro i hd hi A hA hs m a s g hm
              obtain ⟨r, h1, h2⟩ := fin A i a s hA hs
              exact ⟨r, Ev.step (fun k => by unfold spec_l1Cur_two5.l0; rfl) (ev_neg (by rw [List.length_map]; omega) h1), h2⟩
            | succ d ih =>
              intro i hd hi A hA hs m a s g hm
              by_cases hA2 : A.length < 40
              · obtain ⟨c, a4, s4, h4, g4, _⟩ := one_dr hl g (s := s) (by omega) 2
                have hj2 : ∃ r, Ev (fun k => spec_l1Cur_two5.j2 k (A.map wb) (ws.map wb) (i : Nat) true l a s (trie ws)) r ∧ (r.1.length ≤ 482 ∧ r.2.1.length ≤ 482) := by
                  cases c with
                  | true =>
                    have hwi : (ws.getD i []) ∈ ws := by
                      rw [List.getD_eq_getElem?_getD, List.getElem?_eq_getElem (by omega), Option.getD_some]
                      exact List.getElem_mem _
                    have hwz := hw.size hwi
                    have hp := l2Put_ev (A.map wb) (wb (ws.getD i [])) (by rw [List.length_map]; omega) (fun y hy => by
                      obtain ⟨v, hv, rfl⟩ := List.mem_map.1 hy
                      have := hs v hv
                      rw [wb_size]; omega) (by rw [wb_size]; omega)
                    rw [bw_map_wb, bw_wb] at hp
                    have hx : rdOf ByteArray.empty (ws.map wb) (i : Int) = wb (ws.getD i []) := by
                      rw [rdOf_map_wb ws i (by omega)]
                      congr 1
                      simp [show i < ws.length by omega]
                    obtain ⟨r, h5, h6⟩ := ih (i + 1) (by omega) (by omega) (ins A (ws.getD i [])) (by have := ins_length A (ws.getD i []); omega) (fun w hx2 => by
                      rcases (mem_ins _ _ _).1 hx2 with rfl | hx2
                      · exact hwz
                      · exact hs w hx2) _ a4 s4 g4 (by omega)
                    refine ⟨r, Ev.step (fun k => by unfold spec_l1Cur_two5.j2; rfl) (ev_pos rfl (Ev.bind h4 ?_)), h6⟩
                    refine ev_pos rfl (ev_pos (by omega) (ev_pos (by rw [List.length_map]; omega) ?_))
                    rw [hx, inc (by omega)]
                    exact Ev.bind hp h5
                  | false =>
                    obtain ⟨r, h5, h6⟩ := ih (i + 1) (by omega) (by omega) A hA hs _ a4 s4 g4 (by omega)
                    refine ⟨r, Ev.step (fun k => by unfold spec_l1Cur_two5.j2; rfl) (ev_pos rfl (Ev.bind h4 ?_)), h6⟩
                    refine ev_neg (fun e => Bool.noConfusion e) ?_
                    rw [inc (by omega)]
                    exact h5
                obtain ⟨r, h5, h6⟩ := hj2
                refine ⟨r, Ev.step (fun k => by unfold spec_l1Cur_two5.l0; rfl) (ev_pos (by rw [List.length_map]; omega) ?_), h6⟩
                rw [decide_eq_true (show (((A.map wb).length : Nat) : Int) < 40 by rw [List.length_map]; omega)]
                exact h5
              · obtain ⟨r, h5, h6⟩ := fin A i a s hA hs
                refine ⟨r, Ev.step (fun k => by unfold spec_l1Cur_two5.l0; rfl) (ev_pos (by rw [List.length_map]; omega) ?_), h6⟩
                rw [decide_eq_false (show ¬ (((A.map wb).length : Nat) : Int) < 40 by rw [List.length_map]; omega)]
                exact h5
          obtain ⟨r, h5, h6⟩ := key _ 0 rfl (Nat.zero_le _) vs hv.le (fun w hx => hv.size hx) _ a3 s3 g3 (by omega)
          exact ⟨r, Ev.step (fun k => by unfold spec_l1Cur_two5.j0; rfl) (ev_pos rfl (Ev.bind hv.l2Words (Ev.bind hw.l2Words h5))), h6⟩
      obtain ⟨r, h5, h6⟩ := hj
      exact ⟨r, Ev.bind (two_yes hw hv) (ev_pos rfl (Ev.bind h1 h5)), h6⟩
    · exact ⟨_, Ev.bind (two_no (by omega) (by omega) (fun x => by rw [e] at x; cases x.2)) (ev_neg (by decide) (no _ _)), ht, hu⟩
  · exact ⟨_, Ev.bind (two_no (by omega) (by omega) (fun x => by rw [e] at x; cases x.1)) (ev_neg (by decide) (no _ _)), ht, hu⟩
theorem drawJoin_ev {l : List Int} (hl : isCodeB l) : ∃ r, Ev (fun k => spec_DrawJoinTries.f k l) r ∧ (r.1.length ≤ 482 ∧ r.2.length ≤ 482) := by
  unfold spec_DrawJoinTries.f
  refine Dr.fin (one_dr hl At.zero (by omega) 16) fun b a s g _ => ?_
  dsimp only
  cases b with
  | true =>
    obtain ⟨r, h1, h2⟩ := Dr.fin (full_dr hl g (s := s) (by omega)) (R := fun r : List ND × List ND => r.1.length ≤ 482 ∧ r.2.length ≤ 482) (G := fun k x => (spec_l1Cur_trie.f k l x.2.1 x.2.2).bind fun y => some (x.1, y.1)) fun t a s g ht => Dr.fin (trie_dr hl g (by omega)) fun w a s g hw => ⟨_, ev_eq rfl, ht, hw⟩
    exact ⟨r, ev_pos rfl h1, h2⟩
  | false =>
    obtain ⟨r, h1, h2⟩ := two5_ev hl g (s := s) (by omega)
    exact ⟨_, ev_neg (by decide) (Ev.bind h1 (ev_eq rfl)), h2⟩
end Go.Proofs.YtcplbbflfgckbabGreatDoor.Pl
/- Plain: tries joined, met, without others, products, what is behind a prefix, parts, differences: both sides. -/
namespace Go.Proofs.YtcplbbflfgckbabGreatDoor.Pl
open Go.RowKit Go.Ab.Pw Go.Proofs.YtcplbbflfgckbabGreatDoorW.PrintWords Go.Proofs.YtcplbbflfgckbabGreatDoorW.PrintLast Go.Proofs.YtcplbbflfgckbabGreatDoorW.PrintMore Go.Proofs.YtcplbbflfgckbabGreatDoor.X

theorem ev_list {α β : Type} {F : Nat → α → Option β} {p : α → β} : ∀ {l : List α}, (∀ x ∈ l, Ev (fun k => F k x) (p x)) → ∃ K, ∀ k, K ≤ k → ∀ x ∈ l, F k x = some (p x)
  | [], _ => ⟨0, fun _ _ x hx => by cases hx⟩
  | a :: l, h => by
    obtain ⟨K1, h1⟩ := h a List.mem_cons_self
    obtain ⟨K2, h2⟩ := ev_list (fun x hx => h x (List.mem_cons_of_mem _ hx))
    refine ⟨max K1 K2, fun k hk x hx => ?_⟩
    rcases List.mem_cons.1 hx with rfl | hx
    · exact h1 k (by omega)
    · exact h2 k (by omega) x hx
theorem ev_from {α : Type} {F G : Nat → Option α} {r : α} (h : ∃ K, ∀ k, K ≤ k → F k = G k) (hG : Ev G r) : Ev F r := by
  obtain ⟨K1, h1⟩ := h
  obtain ⟨K2, h2⟩ := hG
  exact ⟨max K1 K2, fun k hk => (h1 k (by omega)).trans (h2 k (by omega))⟩
theorem toListW (ws : List Wd) (hl : ∀ w ∈ ws, w.length ≤ 100) : ∀ x ∈ ws.map wb, x.size ≤ 1000000 := fun x hx => by
  obtain ⟨w, hw, rfl⟩ := List.mem_map.1 hx
  have := hl w hw
  rw [wb_size]; omega
theorem WOk.sizes {ws : List Wd} (h : WOk ws) : ∀ w ∈ ws, w.length ≤ 100 := fun w hw => by have := h.size hw; omega
theorem WOk.le_sorted {ws : List Wd} (h : WOk ws) : ws.Pairwise (· ≤ ·) := h.ss.imp (fun h => (le_iff _ _).2 (.inl h))
theorem WOk.trieOf {ws : List Wd} (h : WOk ws) : Ev (fun k => impl_trieOf.f k (ws.map wb)) (trie ws) := trieOf_ev ws (by have := h.le; omega) h.le_sorted h.sizes
theorem makeR_ok {ws : List Wd} (h : WOk ws) : makeR ws = (trie ws, true) := by
  unfold makeR ofR
  rw [if_pos h.ok, setW_of_SS h.ss, if_pos h.le]
theorem makeR_set {L : List Wd} (h : ∀ w ∈ L, okW w) : makeR L = if (setW L).length ≤ 40 then (trie (setW L), true) else ([], false) := by unfold makeR ofR; rw [if_pos h]
theorem chosen_ev {ws : List Wd} (h : WOk ws) {F : Nat → ByteArray → Option Bool} {p : Wd → Bool} (hF : ∀ w ∈ ws, Ev (fun k => F k (wb w)) (p w)) : Ev (fun k => impl_Trie_chosen.f k (trie ws) (F k)) (trie (ws.filter p)) := by
  unfold impl_Trie_chosen.f
  refine Ev.bind h.words (Ev.bind (a := (ws.filter p).map wb) (ev_from (G := fun _ => some ((ws.filter p).map wb)) ?_ (ev_eq rfl)) (Ev.bind (h.filt p).trieOf (ev_eq rfl)))
  obtain ⟨K, hK⟩ := ev_list hF
  refine ⟨K, fun k hk => del_words (by have := h.le; omega) (fun w hw => ?_)⟩
  unfold impl_Trie_chosen_1.f
  rw [hK k hk w hw]; rfl
theorem anyM_ev {ws : List Wd} {F : Nat → ByteArray → Option Bool} {p : Wd → Bool} (hF : ∀ w ∈ ws, Ev (fun k => F k (wb w)) (p w)) : Ev (fun k => G.anyM (F k) (ws.map wb)) (ws.any p) := by
  obtain ⟨K, hK⟩ := ev_list hF
  refine ev_from (G := fun _ => some (ws.any p)) ⟨K, fun k hk => ?_⟩ (ev_eq rfl)
  rw [anyM_of (p := fun z => p (bw z)) (fun z hz => by
    obtain ⟨w, hw, rfl⟩ := List.mem_map.1 hz
    rw [hK k hk w hw, bw_wb]), List.any_map]
  congr 2
theorem contF_ev {ws : List Wd} {F : Nat → ByteArray → Option Bool} {p : Wd → Bool} (hF : ∀ w ∈ ws, Ev (fun k => F k (wb w)) (p w)) : Ev (fun k => slices_ContainsFunc_string_string.f (ws.map wb) (F k)) (ws.any p) := anyM_ev hF
/-! ### both valid -/
theorem those_ev {ws vs : List Wd} (hl : ws.length ≤ 100000) (hv : vs.length ≤ 100000) (b : Bool) : Ev (fun k => spec_l5Those.f k (ws.map wb) (vs.map wb) b) ((ws.filter fun w => decide (w ∈ vs) == b).map wb) := by
  unfold spec_l5Those.f
  have key : ∀ (suf pre A : List Wd), ws = pre ++ suf → A.length ≤ pre.length → Ev (fun k => spec_l5Those.l0 k (ws.map wb) (vs.map wb) b (A.map wb) pre.length) ((A ++ suf.filter fun w => decide (w ∈ vs) == b).map wb) := by
    intro suf
    induction suf with
    | nil =>
      intro pre A e hA
      refine Ev.step (fun k => by unfold spec_l5Those.l0; rfl) (ev_neg (by rw [List.length_map, e]; simp) (ev_eq (by simp)))
    | cons x suf ih =>
      intro pre A e hA
      have hlen : ws.length = pre.length + (suf.length + 1) := by rw [e]; simp
      have hx : rdOf ByteArray.empty (ws.map wb) (pre.length : Int) = wb x := by
        rw [rdOf_map_wb ws pre.length (by omega)]
        congr 1
        simp [e]
      have hh := l2Has_ev (vs.map wb) (wb x) (by rw [List.length_map]; omega)
      rw [bw_map_wb, bw_wb] at hh
      refine Ev.step (fun k => by unfold spec_l5Those.l0; rfl) (ev_pos (by rw [List.length_map]; omega) (ev_pos (by omega) ?_))
      rw [hx, inc (by omega)]
      refine Ev.bind hh ?_
      have ih' := ih (pre ++ [x])
      rw [List.length_append] at ih'
      by_cases hc : (decide (x ∈ vs) == b) = true
      · refine ev_pos hc (ev_pos (by rw [List.length_map]; omega) ?_)
        have := ih' (A ++ [x]) (by rw [e]; simp) (by simp; omega)
        rw [List.map_append] at this
        rw [List.filter_cons, if_pos hc, show A ++ x :: suf.filter (fun w => decide (w ∈ vs) == b) = (A ++ [x]) ++ suf.filter (fun w => decide (w ∈ vs) == b) by simp]
        exact this
      · refine ev_neg hc ?_
        rw [List.filter_cons, if_neg hc]
        exact ih' A (by rw [e]; simp) (by omega)
  have := key ws [] [] rfl (Nat.le_refl _)
  exact this
theorem those_yes {ws vs : List Wd} (h : WOk ws) (h2 : WOk vs) : Ev (fun k => spec_l5Those.f k (ws.map wb) (vs.map wb) true) ((meetL ws vs).map wb) := by
  have := those_ev (ws := ws) (vs := vs) (by have := h.le; omega) (by have := h2.le; omega) true
  rwa [show (fun w => decide (w ∈ vs) == true) = fun w => decide (w ∈ vs) from by funext w; simp] at this
theorem those_no {ws vs : List Wd} (h : WOk ws) (h2 : WOk vs) : Ev (fun k => spec_l5Those.f k (ws.map wb) (vs.map wb) false) ((lessL ws vs).map wb) := by
  have := those_ev (ws := ws) (vs := vs) (by have := h.le; omega) (by have := h2.le; omega) false
  rwa [show (fun w => decide (w ∈ vs) == false) = fun w => !decide (w ∈ vs) from by funext w; simp] at this
theorem meet_ok {ws vs : List Wd} (h : WOk ws) (_h2 : WOk vs) : WOk (meetL ws vs) := h.filt _
theorem less_ok {ws vs : List Wd} (h : WOk ws) (_h2 : WOk vs) : WOk (lessL ws vs) := h.filt _
theorem made_ok {L : List Wd} (hL : WOk L) : Ev (fun k => spec_l5Made.f k (L.map wb)) (trie L, true) := by
  have hm := l5Made_s (L.map wb) (by rw [List.length_map]; have := hL.le; omega) (toListW L hL.sizes)
  rwa [bw_map_wb, makeR_ok hL] at hm
theorem less_cons (x : Wd) (l ys : List Wd) : lessL (x :: l) ys = if x ∈ ys then lessL l ys else x :: lessL l ys := by
  unfold lessL
  rw [List.filter_cons]
  by_cases hx : x ∈ ys <;> simp [hx]
section
variable {ws vs : List Wd} (h : WOk ws) (h2 : WOk vs)
include h h2
theorem app_ok : ∀ w ∈ ws ++ vs, okW w := fun w hw => (List.mem_append.1 hw).elim (h.ok w) (h2.ok w)
theorem join_i : Ev (fun k => impl_JoinTries.f k (trie ws) (trie vs)) (makeR (ws ++ vs)) := by
  have := h.le
  have := h2.le
  unfold impl_JoinTries.f
  refine Ev.bind h.trieT (ev_pos rfl (Ev.bind h2.trieT (Ev.step (fun k => by unfold impl_JoinTries.j0; rfl) (ev_neg (by decide) (Ev.bind h.words (Ev.bind h2.words ?_))))))
  refine ev_pos (by rw [List.length_map, List.length_map]; omega) ?_
  have hm := madeOf_i (ws.map wb ++ vs.map wb) (by simp; omega) (fun x hx => (List.mem_append.1 hx).elim (toListW ws h.sizes x) (toListW vs h2.sizes x))
  rw [List.map_append, bw_map_wb, bw_map_wb] at hm
  exact Ev.bind hm (ev_eq rfl)
theorem join_s : Ev (fun k => spec_JoinTries.f k (trie ws) (trie vs)) (makeR (ws ++ vs)) := by
  have := h.le
  have := h2.le
  unfold spec_JoinTries.f
  refine Ev.bind (two_yes h h2) (ev_pos rfl (Ev.bind h.l2Words (Ev.bind h2.l2Words (ev_pos (by simp; omega) ?_))))
  have hm := l5Made_s (ws.map wb ++ vs.map wb) (by simp; omega) (fun x hx => (List.mem_append.1 hx).elim (toListW ws h.sizes x) (toListW vs h2.sizes x))
  rw [List.map_append, bw_map_wb, bw_map_wb] at hm
  exact Ev.bind hm (ev_eq rfl)
theorem meet_i : Ev (fun k => impl_MeetTries.f k (trie ws) (trie vs)) (trie (meetL ws vs), true) := by
  unfold impl_MeetTries.f
  refine Ev.bind h.trieT (ev_pos rfl (Ev.bind h2.trieT (ev_pos rfl (Ev.bind (chosen_ev h (F := fun k z_ => impl_Trie_has.f k (trie vs) z_) (p := fun w => decide (w ∈ vs)) (fun w _ => ?_)) (ev_eq rfl)))))
  have := h2.has (wb w)
  rwa [bw_wb] at this
theorem meet_s : Ev (fun k => spec_MeetTries.f k (trie ws) (trie vs)) (trie (meetL ws vs), true) := by
  unfold spec_MeetTries.f
  exact Ev.bind (two_yes h h2) (ev_pos rfl (Ev.bind h.l2Words (Ev.bind h2.l2Words (Ev.bind (those_yes h h2) (Ev.bind (made_ok (meet_ok h h2)) (ev_eq rfl))))))
theorem less_i : Ev (fun k => impl_WithoutTrie.f k (trie ws) (trie vs)) (trie (lessL ws vs), true) := by
  unfold impl_WithoutTrie.f
  refine Ev.bind h.trieT (ev_pos rfl (Ev.bind h2.trieT (ev_pos rfl (Ev.bind (chosen_ev h (F := fun k z_ => impl_WithoutTrie_1.f k z_ (trie vs)) (p := fun w => !decide (w ∈ vs)) (fun w _ => ?_)) (ev_eq rfl)))))
  unfold impl_WithoutTrie_1.f
  have := h2.has (wb w)
  rw [bw_wb] at this
  exact Ev.bind this (ev_eq rfl)
theorem less_s : Ev (fun k => spec_WithoutTrie.f k (trie ws) (trie vs)) (trie (lessL ws vs), true) := by
  unfold spec_WithoutTrie.f
  exact Ev.bind (two_yes h h2) (ev_pos rfl (Ev.bind h.l2Words (Ev.bind h2.l2Words (Ev.bind (those_no h h2) (Ev.bind (made_ok (less_ok h h2)) (ev_eq rfl))))))
def partR (ws vs : List Wd) : Bool := decide ((lessL ws vs).length = 0)
theorem part_i : Ev (fun k => impl_IsPartTrie.f k (trie ws) (trie vs)) (partR ws vs, true) := by
  unfold impl_IsPartTrie.f
  refine Ev.bind h.trieT (ev_pos rfl (Ev.bind h2.trieT (Ev.step (fun k => by unfold impl_IsPartTrie.j0; rfl) (ev_neg (by decide) (Ev.bind h.words ?_)))))
  refine Ev.bind (contF_ev (F := fun k z_ => impl_IsPartTrie_1.f k z_ (trie vs)) (p := fun w => !decide (w ∈ vs)) (fun w _ => ?_)) ?_
  · unfold impl_IsPartTrie_1.f
    have := h2.has (wb w)
    rw [bw_wb] at this
    exact Ev.bind this (ev_eq rfl)
  · refine ev_eq ?_
    congr 1
    unfold partR
    rw [Bool.eq_iff_iff, decide_eq_true_eq, less_nil, Bool.not_eq_true', List.any_eq_false]
    simp
theorem part_s : Ev (fun k => spec_IsPartTrie.f k (trie ws) (trie vs)) (partR ws vs, true) := by
  unfold spec_IsPartTrie.f
  refine Ev.bind (two_yes h h2) (ev_pos rfl (Ev.bind h.l2Words (Ev.bind h2.l2Words (Ev.bind (those_no h h2) (ev_eq ?_)))))
  congr 1
  unfold partR
  rw [List.length_map, Bool.eq_iff_iff, decide_eq_true_eq, beq_iff_eq]
  omega
def differR (ws vs : List Wd) : Int := ((lessL ws vs).length : Int) + ((lessL vs ws).length : Int)
theorem differ_s : Ev (fun k => spec_DifferTries.f k (trie ws) (trie vs)) (differR ws vs, true) := by
  unfold spec_DifferTries.f
  have h1 := (less_ok h h2).le
  have h3 := (less_ok h2 h).le
  refine Ev.bind (two_yes h h2) (ev_pos rfl (Ev.bind h.l2Words (Ev.bind h2.l2Words (Ev.bind (those_no h h2) (Ev.bind h2.l2Words (Ev.bind h.l2Words (Ev.bind (those_no h2 h) (ev_eq ?_))))))))
  rw [List.length_map, List.length_map, w64 (by omega) (by omega)]
  rfl
theorem differ_i : Ev (fun k => impl_DifferTries.f k (trie ws) (trie vs)) (differR ws vs, true) := by
  have hl := h.le
  have hl2 := h2.le
  unfold impl_DifferTries.f
  refine Ev.bind h.trieT (ev_pos rfl (Ev.bind h2.trieT (Ev.step (fun k => by unfold impl_DifferTries.j0; rfl) (ev_neg (by decide) (Ev.bind h.words ?_)))))
  have key1 : ∀ (suf pre : List Wd) (n : Nat), vs = pre ++ suf → n ≤ 40 + pre.length → Ev (fun k => impl_DifferTries.l1 k (n : Int) (vs.map wb) ((vs.map wb).length : Int) pre.length (trie ws)) (((n + (lessL suf ws).length : Nat) : Int), true) := by
    intro suf
    induction suf with
    | nil =>
      intro pre n e hn
      exact Ev.step (fun k => by unfold impl_DifferTries.l1; rfl) (ev_neg (by rw [List.length_map, e]; simp) (ev_eq (by simp [lessL])))
    | cons x suf ih =>
      intro pre n e hn
      have hlen : vs.length = pre.length + (suf.length + 1) := by rw [e]; simp
      have hx : rdOf ByteArray.empty (vs.map wb) (pre.length : Int) = wb x := by
        rw [rdOf_map_wb vs pre.length (by omega)]
        congr 1
        simp [e]
      have hh := h.has (wb x)
      rw [bw_wb] at hh
      have ih' := fun n => ih (pre ++ [x]) n (by rw [e]; simp)
      rw [List.length_append] at ih'
      refine Ev.step (fun k => by unfold impl_DifferTries.l1; rfl) (ev_pos (by rw [List.length_map]; omega) (ev_pos (by omega) (ev_pos (by rw [List.length_map]; omega) ?_)))
      rw [hx, inc (by omega), less_cons]
      refine Ev.bind hh ?_
      by_cases hc : x ∈ ws
      · rw [if_pos hc]
        exact ev_pos (decide_eq_true hc) (ih' n (by simp; omega))
      · rw [if_neg hc, List.length_cons, inc (by omega)]
        refine ev_neg (by simp [hc]) ?_
        have := ih' (n + 1) (by simp; omega)
        rw [show n + 1 + (lessL suf ws).length = n + ((lessL suf ws).length + 1) by omega] at this
        exact this
  have key0 : ∀ (suf pre : List Wd) (n : Nat), ws = pre ++ suf → n ≤ pre.length → Ev (fun k => impl_DifferTries.l0 k (n : Int) (ws.map wb) ((ws.map wb).length : Int) pre.length (trie ws) (trie vs)) (((n + (lessL suf vs).length + (lessL vs ws).length : Nat) : Int), true) := by
    intro suf
    induction suf with
    | nil =>
      intro pre n e hn
      have hp : pre.length ≤ 40 := by rw [e] at hl; simpa using hl
      refine Ev.step (fun k => by unfold impl_DifferTries.l0; rfl) (ev_neg (by rw [List.length_map, e]; simp) (Ev.bind h2.words ?_))
      have := key1 vs [] n rfl (by simp; omega)
      simpa [lessL] using this
    | cons x suf ih =>
      intro pre n e hn
      have hlen : ws.length = pre.length + (suf.length + 1) := by rw [e]; simp
      have hx : rdOf ByteArray.empty (ws.map wb) (pre.length : Int) = wb x := by
        rw [rdOf_map_wb ws pre.length (by omega)]
        congr 1
        simp [e]
      have hh := h2.has (wb x)
      rw [bw_wb] at hh
      have ih' := fun n => ih (pre ++ [x]) n (by rw [e]; simp)
      rw [List.length_append] at ih'
      refine Ev.step (fun k => by unfold impl_DifferTries.l0; rfl) (ev_pos (by rw [List.length_map]; omega) (ev_pos (by omega) (ev_pos (by rw [List.length_map]; omega) ?_)))
      rw [hx, inc (by omega), less_cons]
      refine Ev.bind hh ?_
      by_cases hc : x ∈ vs
      · rw [if_pos hc]
        exact ev_pos (decide_eq_true hc) (ih' n (by simp; omega))
      · rw [if_neg hc, List.length_cons, inc (by omega)]
        refine ev_neg (by simp [hc]) ?_
        have := ih' (n + 1) (by simp; omega)
        rw [show n + 1 + (lessL suf vs).length + (lessL vs ws).length = n + ((lessL suf vs).length + 1) + (lessL vs ws).length by omega] at this
        exact this
  have := key0 ws [] 0 rfl (Nat.zero_le _)
  rw [Nat.zero_add] at this
  unfold differR
  rw [Int.natCast_add] at this
  exact this
theorem times_i : Ev (fun k => impl_TimesTrie.f k (trie ws) (trie vs)) (makeR (timesL ws vs)) := by
  have hl := h.le
  have hl2 := h2.le
  unfold impl_TimesTrie.f
  refine Ev.bind h.trieT (ev_pos rfl (Ev.bind h2.trieT (Ev.step (fun k => by unfold impl_TimesTrie.j0; rfl) (ev_neg (by decide) (Ev.bind h.words ?_)))))
  have fin : ∀ A : List Wd, A.length ≤ 1600 → (∀ w ∈ A, w.length ≤ 100) → Ev (fun k => (impl_madeOf.f k (A.map wb)).bind fun b => some (b.1, b.2)) (makeR A) := fun A hA hs => by
    have hm := madeOf_i (A.map wb) (by rw [List.length_map]; omega) (toListW A hs)
    rw [bw_map_wb] at hm
    exact Ev.bind hm (ev_eq rfl)
  have key : ∀ (suf pre : List Wd) (A : List Wd), ws = pre ++ suf → A.length ≤ pre.length * 40 → (∀ w ∈ A, w.length ≤ 100) → Ev (fun k => impl_TimesTrie.l0 k (A.map wb) (ws.map wb) ((ws.map wb).length : Int) pre.length (trie vs)) (makeR (A ++ timesL suf vs)) := by
    intro suf
    induction suf with
    | nil =>
      intro pre A e hA hs
      have hp : pre.length ≤ 40 := by rw [e] at hl; simpa using hl
      refine Ev.step (fun k => by unfold impl_TimesTrie.l0; rfl) (ev_neg (by rw [List.length_map, e]; simp) ?_)
      have := fin A (by omega) hs
      simpa [timesL] using this
    | cons x suf ih =>
      intro pre A e hA hs
      have hlen : ws.length = pre.length + (suf.length + 1) := by rw [e]; simp
      have hxs := h.size (show x ∈ ws by rw [e]; simp)
      have hx : rdOf ByteArray.empty (ws.map wb) (pre.length : Int) = wb x := by
        rw [rdOf_map_wb ws pre.length (by omega)]
        congr 1
        simp [e]
      refine Ev.step (fun k => by unfold impl_TimesTrie.l0; rfl) (ev_pos (by rw [List.length_map]; omega) (ev_pos (by omega) (ev_pos (by rw [List.length_map]; omega) (Ev.bind h2.words ?_))))
      rw [hx]
      have key1 : ∀ (suf2 pre2 : List Wd) (B : List Wd), vs = pre2 ++ suf2 → B.length ≤ A.length + pre2.length → (∀ w ∈ B, w.length ≤ 100) → Ev (fun k => impl_TimesTrie.l1 k (B.map wb) (wb x) (ws.map wb) ((ws.map wb).length : Int) pre.length (vs.map wb) ((vs.map wb).length : Int) pre2.length (trie vs)) (makeR ((B ++ suf2.map fun w => x ++ w) ++ timesL suf vs)) := by
        intro suf2
        induction suf2 with
        | nil =>
          intro pre2 B e2 hB hs2
          have hp2 : pre2.length ≤ 40 := by rw [e2] at hl2; simpa using hl2
          refine Ev.step (fun k => by unfold impl_TimesTrie.l1; rfl) (ev_neg (by rw [List.length_map, e2]; simp) ?_)
          rw [inc (by omega)]
          have := ih (pre ++ [x]) B (by rw [e]; simp) (by simp; omega) hs2
          rw [List.length_append] at this
          simpa using this
        | cons y suf2 ih2 =>
          intro pre2 B e2 hB hs2
          have hlen2 : vs.length = pre2.length + (suf2.length + 1) := by rw [e2]; simp
          have hys := h2.size (show y ∈ vs by rw [e2]; simp)
          have hy : rdOf ByteArray.empty (vs.map wb) (pre2.length : Int) = wb y := by
            rw [rdOf_map_wb vs pre2.length (by omega)]
            congr 1
            simp [e2]
          refine Ev.step (fun k => by unfold impl_TimesTrie.l1; rfl) (ev_pos (by rw [List.length_map]; omega) (ev_pos (by omega) (ev_pos (by rw [List.length_map]; omega) ?_)))
          rw [hy, wb_size, wb_size, inc (by omega)]
          refine ev_pos (by omega) (ev_pos (by rw [List.length_map]; omega) ?_)
          rw [wb_append]
          have := ih2 (pre2 ++ [y]) (B ++ [x ++ y]) (by rw [e2]; simp) (by simp; omega) (fun w hw => by
            rcases List.mem_append.1 hw with hw | hw
            · exact hs2 w hw
            · rw [List.mem_singleton.1 hw, List.length_append]; omega)
          rw [List.length_append, List.map_append] at this
          rw [show (B ++ (y :: suf2).map fun w => x ++ w) = (B ++ [x ++ y]) ++ suf2.map fun w => x ++ w by simp]
          exact this
      have := key1 vs [] A rfl (by simp) hs
      rw [show A ++ timesL (x :: suf) vs = (A ++ vs.map fun w => x ++ w) ++ timesL suf vs by simp [timesL]]
      exact this
  exact key ws [] [] rfl (by simp) (fun w hw => by cases hw)
theorem times_s : Ev (fun k => spec_TimesTrie.f k (trie ws) (trie vs)) (makeR (timesL ws vs)) := by
  have hl := h.le
  have hl2 := h2.le
  unfold spec_TimesTrie.f
  refine Ev.bind (two_yes h h2) (ev_pos rfl (Ev.bind h.l2Words (Ev.bind h2.l2Words ?_)))
  have fin : ∀ A : List Wd, A.length ≤ 1600 → (∀ w ∈ A, w.length ≤ 100) → Ev (fun k => (spec_l5Made.f k (A.map wb)).bind fun b => some (b.1, b.2)) (makeR A) := fun A hA hs => by
    have hm := l5Made_s (A.map wb) (by rw [List.length_map]; omega) (toListW A hs)
    rw [bw_map_wb] at hm
    exact Ev.bind hm (ev_eq rfl)
  have key : ∀ (suf pre : List Wd) (A : List Wd), ws = pre ++ suf → A.length ≤ pre.length * 40 → (∀ w ∈ A, w.length ≤ 100) → Ev (fun k => spec_TimesTrie.l0 k (A.map wb) (ws.map wb) (vs.map wb) pre.length) (makeR (A ++ timesL suf vs)) := by
    intro suf
    induction suf with
    | nil =>
      intro pre A e hA hs
      have hp : pre.length ≤ 40 := by rw [e] at hl; simpa using hl
      refine Ev.step (fun k => by unfold spec_TimesTrie.l0; rfl) (ev_neg (by rw [List.length_map, e]; simp) ?_)
      have := fin A (by omega) hs
      simpa [timesL] using this
    | cons x suf ih =>
      intro pre A e hA hs
      have hlen : ws.length = pre.length + (suf.length + 1) := by rw [e]; simp
      have hxs := h.size (show x ∈ ws by rw [e]; simp)
      have hx : rdOf ByteArray.empty (ws.map wb) (pre.length : Int) = wb x := by
        rw [rdOf_map_wb ws pre.length (by omega)]
        congr 1
        simp [e]
      refine Ev.step (fun k => by unfold spec_TimesTrie.l0; rfl) (ev_pos (by rw [List.length_map]; omega) ?_)
      have key1 : ∀ (suf2 pre2 : List Wd) (B : List Wd), vs = pre2 ++ suf2 → B.length ≤ A.length + pre2.length → (∀ w ∈ B, w.length ≤ 100) → Ev (fun k => spec_TimesTrie.l1 k (B.map wb) (ws.map wb) (vs.map wb) pre.length pre2.length) (makeR ((B ++ suf2.map fun w => x ++ w) ++ timesL suf vs)) := by
        intro suf2
        induction suf2 with
        | nil =>
          intro pre2 B e2 hB hs2
          have hp2 : pre2.length ≤ 40 := by rw [e2] at hl2; simpa using hl2
          refine Ev.step (fun k => by unfold spec_TimesTrie.l1; rfl) (ev_neg (by rw [List.length_map, e2]; simp) ?_)
          rw [inc (by omega)]
          have := ih (pre ++ [x]) B (by rw [e]; simp) (by simp; omega) hs2
          rw [List.length_append] at this
          simpa using this
        | cons y suf2 ih2 =>
          intro pre2 B e2 hB hs2
          have hlen2 : vs.length = pre2.length + (suf2.length + 1) := by rw [e2]; simp
          have hys := h2.size (show y ∈ vs by rw [e2]; simp)
          have hy : rdOf ByteArray.empty (vs.map wb) (pre2.length : Int) = wb y := by
            rw [rdOf_map_wb vs pre2.length (by omega)]
            congr 1
            simp [e2]
          refine Ev.step (fun k => by unfold spec_TimesTrie.l1; rfl) (ev_pos (by rw [List.length_map]; omega) (ev_pos (by omega) (ev_pos (by rw [List.length_map]; omega) (ev_pos (by omega) ?_))))
          rw [hx, hy, wb_size, wb_size, inc (by omega)]
          refine ev_pos (by omega) (ev_pos (by rw [List.length_map]; omega) ?_)
          rw [wb_append]
          have := ih2 (pre2 ++ [y]) (B ++ [x ++ y]) (by rw [e2]; simp) (by simp; omega) (fun w hw => by
            rcases List.mem_append.1 hw with hw | hw
            · exact hs2 w hw
            · rw [List.mem_singleton.1 hw, List.length_append]; omega)
          rw [List.length_append, List.map_append] at this
          rw [show (B ++ (y :: suf2).map fun w => x ++ w) = (B ++ [x ++ y]) ++ suf2.map fun w => x ++ w by simp]
          exact this
      have := key1 vs [] A rfl (by simp) hs
      rw [show A ++ timesL (x :: suf) vs = (A ++ vs.map fun w => x ++ w) ++ timesL suf vs by simp [timesL]]
      exact this
  exact key ws [] [] rfl (by simp) (fun w hw => by cases hw)
end
/-! ### behind a prefix -/
def behindR (ws : List Wd) (p : Wd) : List ND × Bool := if okW p then (trie (behindL ws p), true) else ([], false)
theorem extract_from (w : Wd) (n : Nat) : (wb w).extract n (wb w).size = wb (w.drop n) := bw_inj (by
  rw [bw_wb, wb_size]
  simp only [bw, wb, ByteArray.data_extract, List.extract_toArray, List.extract_eq_take_drop]
  exact List.take_of_length_le (by rw [List.length_drop]; exact Nat.le_refl _))
theorem behind_i {ws : List Wd} (h : WOk ws) (p : ByteArray) (hp : p.size ≤ 1000) : Ev (fun k => impl_BehindPrefix.f k (trie ws) p) (behindR ws (bw p)) := by
  have hl := h.le
  have hlen := h.len
  have hpl := bw_size p
  unfold impl_BehindPrefix.f behindR
  refine Ev.bind (areKept_ev (trie ws) (by omega) p (by omega)) ?_
  rw [h.isT, Bool.true_and]
  by_cases ho : okW (bw p)
  · rw [decide_eq_true ho, if_pos ho]
    refine ev_pos rfl (Ev.bind (h.under p) ?_)
    have hb := h.behind (bw p)
    have hul := under_length ws (bw p)
    generalize hu : underL ws (bw p) = us at hul
    have hpre : ∀ w ∈ us, bw p <+: w ∧ w.length ≤ 12 := fun w hw => by rw [← hu] at hw; exact ⟨(mem_under.1 hw).2, h.size (mem_under.1 hw).1⟩
    have key : ∀ (suf pre A : List Wd), us = pre ++ suf → A.length ≤ pre.length → (∀ w ∈ A, w.length ≤ 100) → Ev (fun k => impl_BehindPrefix.l0 k p (A.map wb) (us.map wb) ((us.map wb).length : Int) pre.length) (makeR (A ++ suf.map fun w => w.drop (bw p).length)) := by
      intro suf
      induction suf with
      | nil =>
        intro pre A e hA hs
        have hpl2 : pre.length ≤ 40 := by have := congrArg List.length e; simp at this; omega
        refine Ev.step (fun k => by unfold impl_BehindPrefix.l0; rfl) (ev_neg (by rw [List.length_map, e]; simp) ?_)
        have hm := madeOf_i (A.map wb) (by rw [List.length_map]; omega) (toListW A hs)
        rw [bw_map_wb] at hm
        rw [List.map_nil, List.append_nil]
        exact Ev.bind hm (ev_eq rfl)
      | cons x suf ih =>
        intro pre A e hA hs
        have hlen : us.length = pre.length + (suf.length + 1) := by rw [e]; simp
        obtain ⟨hx1, hx2⟩ := hpre x (by rw [e]; simp)
        have hx3 := hx1.length_le
        have hx : rdOf ByteArray.empty (us.map wb) (pre.length : Int) = wb x := by
          rw [rdOf_map_wb us pre.length (by omega)]
          congr 1
          simp [e]
        refine Ev.step (fun k => by unfold impl_BehindPrefix.l0; rfl) (ev_pos (by rw [List.length_map]; omega) (ev_pos (by omega) (ev_pos (by rw [List.length_map]; omega) (ev_pos (by omega) ?_))))
        rw [hx, extract_from, wb_size, inc (by omega), ← hpl]
        refine ev_pos (by omega) (ev_pos (by rw [List.length_map]; omega) ?_)
        have := ih (pre ++ [x]) (A ++ [x.drop (bw p).length]) (by rw [e]; simp) (by simp; omega) (fun w hw => by
          rcases List.mem_append.1 hw with hw | hw
          · exact hs w hw
          · rw [List.mem_singleton.1 hw, List.length_drop]; omega)
        rw [List.length_append, List.map_append] at this
        rw [show (A ++ (x :: suf).map fun w => w.drop (bw p).length) = (A ++ [x.drop (bw p).length]) ++ suf.map fun w => w.drop (bw p).length by simp]
        exact this
    have := key us [] [] rfl (by simp) (fun w hw => by cases hw)
    rw [List.nil_append, ← hu] at this
    rw [← hu]
    unfold behindL at hb ⊢
    rw [makeR_ok hb] at this
    exact this
  · rw [decide_eq_false ho, if_neg ho]
    exact ev_neg (by decide) (ev_eq rfl)
theorem behind_s {ws : List Wd} (h : WOk ws) (p : ByteArray) (hp : p.size ≤ 1000) : Ev (fun k => spec_BehindPrefix.f k (trie ws) p) (behindR ws (bw p)) := by
  have hl := h.le
  have hlen := h.len
  have hpl := bw_size p
  unfold spec_BehindPrefix.f behindR
  refine Ev.bind h.l2Trie (ev_pos rfl (Ev.bind (l2Word_ev p (by omega)) (Ev.step (fun k => by unfold spec_BehindPrefix.j0; rfl) ?_)))
  by_cases ho : okW (bw p)
  · rw [decide_eq_true ho, if_pos ho]
    refine ev_neg (by decide) (Ev.bind h.l2Words (Ev.bind (l3Under_ev ws (by omega) p) ?_))
    have hb := h.behind (bw p)
    have hul := under_length ws (bw p)
    generalize hu : underL ws (bw p) = us at hul
    have hpre : ∀ w ∈ us, bw p <+: w ∧ w.length ≤ 12 := fun w hw => by rw [← hu] at hw; exact ⟨(mem_under.1 hw).2, h.size (mem_under.1 hw).1⟩
    have key : ∀ (suf pre A : List Wd), us = pre ++ suf → A.length ≤ pre.length → (∀ w ∈ A, w.length ≤ 100) → Ev (fun k => spec_BehindPrefix.l0 k p (A.map wb) (us.map wb) pre.length) (makeR (A ++ suf.map fun w => w.drop (bw p).length)) := by
      intro suf
      induction suf with
      | nil =>
        intro pre A e hA hs
        have hpl2 : pre.length ≤ 40 := by have := congrArg List.length e; simp at this; omega
        refine Ev.step (fun k => by unfold spec_BehindPrefix.l0; rfl) (ev_neg (by rw [List.length_map, e]; simp) ?_)
        have hm := l5Made_s (A.map wb) (by rw [List.length_map]; omega) (toListW A hs)
        rw [bw_map_wb] at hm
        rw [List.map_nil, List.append_nil]
        exact Ev.bind hm (ev_eq rfl)
      | cons x suf ih =>
        intro pre A e hA hs
        have hlen : us.length = pre.length + (suf.length + 1) := by rw [e]; simp
        obtain ⟨hx1, hx2⟩ := hpre x (by rw [e]; simp)
        have hx3 := hx1.length_le
        have hx : rdOf ByteArray.empty (us.map wb) (pre.length : Int) = wb x := by
          rw [rdOf_map_wb us pre.length (by omega)]
          congr 1
          simp [e]
        refine Ev.step (fun k => by unfold spec_BehindPrefix.l0; rfl) (ev_pos (by rw [List.length_map]; omega) (ev_pos (by omega) (ev_pos (by omega) ?_)))
        rw [hx, extract_from, wb_size, inc (by omega), ← hpl]
        refine ev_pos (by omega) (ev_pos (by rw [List.length_map]; omega) ?_)
        have := ih (pre ++ [x]) (A ++ [x.drop (bw p).length]) (by rw [e]; simp) (by simp; omega) (fun w hw => by
          rcases List.mem_append.1 hw with hw | hw
          · exact hs w hw
          · rw [List.mem_singleton.1 hw, List.length_drop]; omega)
        rw [List.length_append, List.map_append] at this
        rw [show (A ++ (x :: suf).map fun w => w.drop (bw p).length) = (A ++ [x.drop (bw p).length]) ++ suf.map fun w => w.drop (bw p).length by simp]
        exact this
    have := key us [] [] rfl (by simp) (fun w hw => by cases hw)
    rw [List.nil_append, ← hu] at this
    rw [← hu]
    unfold behindL at hb ⊢
    rw [makeR_ok hb] at this
    exact this
  · rw [decide_eq_false ho, if_neg ho]
    exact ev_pos rfl (ev_eq rfl)
end Go.Proofs.YtcplbbflfgckbabGreatDoor.Pl
/- Plain: what is known of a valid trie: its nodes' parents, kids and prefixes. -/
namespace Go.Proofs.YtcplbbflfgckbabGreatDoor.Pl
open Go.RowKit Go.Ab.Pw Go.Proofs.YtcplbbflfgckbabGreatDoorW.PrintWords Go.Proofs.YtcplbbflfgckbabGreatDoorW.PrintLast Go.Proofs.YtcplbbflfgckbabGreatDoorW.PrintMore Go.Proofs.YtcplbbflfgckbabGreatDoor.X

/-- The parent of a node. -/
def par (t : List ND) (i : Nat) : Int := (t.getD i zND).f1
theorem getD_nd {t : List ND} {i : Nat} (h : i < t.length) : t.getD i zND = t[i] := by
  rw [List.getD_eq_getElem?_getD, List.getElem?_eq_getElem h]; rfl
theorem rd_nd' {t : List ND} {i : Nat} (h : i < t.length) : rd_T65 t (i : Int) = t.getD i zND := by rw [rd_nd h, getD_nd h]
/-- What is known of a trie that a game is played on. -/
structure GOk (t : List ND) (P : List Wd) : Prop extends TOk t P where
  root : par t 0 = -1
  nod : P.Nodup
theorem gok_trie {ws : List Wd} (h2 : ∀ w ∈ ws, okW w) (h3 : ws.length ≤ 40) : GOk (trie ws) (prefs ws) := by
  refine ⟨⟨prefP_trie h2 h3, fun p hp => (prefs_okW h2 hp).1⟩, ?_, (prefs_SS ws).nodup⟩
  obtain ⟨l, hl⟩ := prefs_head ws
  unfold par trie
  rw [hl]
  rfl
theorem IsT.gok {t : List ND} (h : IsT t) : ∃ P, GOk t P := by
  obtain ⟨ws, _, h2, h3, rfl⟩ := h
  exact ⟨prefs ws, gok_trie h2 h3⟩
section
variable {t : List ND} {P : List Wd} (h : GOk t P)
include h
theorem GOk.one : 1 ≤ t.length := (prefP_spec h.pre).1
theorem GOk.len : t.length ≤ 481 := (prefP_spec h.pre).2.1
theorem GOk.plen : P.length = t.length := (prefP_spec h.pre).2.2.1
theorem GOk.par_lt {i : Nat} (hi : i < t.length) (h0 : 0 < i) : 0 ≤ par t i ∧ par t i < (i : Int) := by
  have := (prefP_spec h.pre).2.2.2.2 i h0 hi
  unfold par
  rw [getD_nd hi]
  exact ⟨this.1, this.2.1⟩
theorem GOk.par_lt' {i : Nat} (hi : i < t.length) : -1 ≤ par t i ∧ par t i < (i : Int) := by
  by_cases h0 : 0 < i
  · have := h.par_lt hi h0; omega
  · obtain rfl : i = 0 := by omega
    rw [h.root]; omega
theorem GOk.short' {i : Nat} (hi : i < t.length) : (P.getD i []).length ≤ 12 := by
  refine h.short _ ?_
  rw [List.getD_eq_getElem?_getD, List.getElem?_eq_getElem (by rw [h.plen]; exact hi)]
  exact List.getElem_mem _
end
/-- The kids of a node, from a place on. -/
def kidsFrom (t : List ND) (i : Nat) (j : Nat) : List Nat := (List.range' j (t.length - j)).filter fun c => par t c = (i : Int)
def kids (t : List ND) (i : Nat) : List Nat := kidsFrom t i 0
theorem kidsFrom_step (t : List ND) (i j : Nat) (h : j < t.length) : kidsFrom t i j = if par t j = (i : Int) then j :: kidsFrom t i (j + 1) else kidsFrom t i (j + 1) := by
  unfold kidsFrom
  rw [show t.length - j = (t.length - (j + 1)) + 1 by omega, List.range'_succ, List.filter_cons]
  by_cases hc : par t j = (i : Int)
  · rw [if_pos (by simpa using hc), if_pos hc]
  · rw [if_neg (by simpa using hc), if_neg hc]
theorem kidsFrom_end (t : List ND) (i j : Nat) (h : t.length ≤ j) : kidsFrom t i j = [] := by
  unfold kidsFrom
  rw [show t.length - j = 0 by omega]; rfl
theorem kidsFrom_skip {t : List ND} {P : List Wd} (h : GOk t P) (i : Nat) : ∀ j, j ≤ i + 1 → kidsFrom t i 0 = kidsFrom t i j
  | 0, _ => rfl
  | j + 1, hj => by
    rw [kidsFrom_skip h i j (by omega)]
    by_cases hl : j < t.length
    · rw [kidsFrom_step t i j hl, if_neg (by have := h.par_lt' hl; omega)]
    · rw [kidsFrom_end t i j (by omega), kidsFrom_end t i (j + 1) (by omega)]
theorem mem_kids {t : List ND} {i c : Nat} : c ∈ kids t i ↔ c < t.length ∧ par t c = (i : Int) := by
  unfold kids kidsFrom
  simp only [List.mem_filter, List.mem_range'_1, decide_eq_true_eq]
  omega
theorem kids_gt {t : List ND} {P : List Wd} (h : GOk t P) {i c : Nat} (hc : c ∈ kids t i) : i < c ∧ c < t.length := by
  obtain ⟨h1, h2⟩ := mem_kids.1 hc
  have := h.par_lt' h1
  omega
theorem kids_length (t : List ND) (i : Nat) : (kids t i).length ≤ t.length := by
  unfold kids kidsFrom
  exact Nat.le_trans (List.length_filter_le _ _) (by simp)
def ints (l : List Nat) : List Int := l.map fun c : Nat => (c : Int)
theorem ints_length (l : List Nat) : (ints l).length = l.length := List.length_map _
theorem rd_ints {l : List Nat} {i : Nat} (h : i < l.length) : rd (ints l) (i : Int) = (l.getD i 0 : Nat) := by
  rw [rd_nat]; unfold ints
  rw [List.getD_eq_getElem?_getD, List.getElem?_map, List.getElem?_eq_getElem h, List.getD_eq_getElem?_getD, List.getElem?_eq_getElem h]; rfl
end Go.Proofs.YtcplbbflfgckbabGreatDoor.Pl
/- Plain: a node's kid with a letter; each prefix has one node. -/

namespace Go.Proofs.YtcplbbflfgckbabGreatDoor.Pl
open Go.RowKit Go.Ab.Pw Go.Proofs.YtcplbbflfgckbabGreatDoorW.PrintWords Go.Proofs.YtcplbbflfgckbabGreatDoorW.PrintLast Go.Proofs.YtcplbbflfgckbabGreatDoorW.PrintMore Go.Proofs.YtcplbbflfgckbabGreatDoor.X

/-- The kid with a letter, or -1. -/
def asKid : Option Nat → Int
  | some c => (c : Int)
  | none => -1
def kidAt (t : List ND) (i : Nat) (x : Int) : Int := asKid ((kids t i).find? fun c => (t.getD c zND).f0 = x)
theorem GOk.inj {t : List ND} {P : List Wd} (h : GOk t P) {c c' : Nat} (hc : c < t.length) (hc' : c' < t.length) (hP : P.getD c [] = P.getD c' []) : c = c' := by
  have hl := h.plen
  have hcl : c < P.length := by rw [hl]; exact hc
  have hcl' : c' < P.length := by rw [hl]; exact hc'
  rw [List.getD_eq_getElem?_getD, List.getD_eq_getElem?_getD, List.getElem?_eq_getElem hcl, List.getElem?_eq_getElem hcl', Option.getD_some, Option.getD_some] at hP
  rcases Nat.lt_trichotomy c c' with hlt | he | hlt
  · exact absurd hP ((List.pairwise_iff_getElem.1 h.nod) c c' hcl hcl' hlt)
  · exact he
  · exact absurd hP.symm ((List.pairwise_iff_getElem.1 h.nod) c' c hcl' hcl hlt)
theorem GOk.kid_word {t : List ND} {P : List Wd} (h : GOk t P) {i c : Nat} (hc : c ∈ kids t i) : P.getD c [] = P.getD i [] ++ [letterB (t.getD c zND).f0] ∧ 0 ≤ (t.getD c zND).f0 ∧ (t.getD c zND).f0 ≤ 25 := by
  have g := kids_gt h hc
  have p := (mem_kids.1 hc).2
  have s := (prefP_spec h.pre).2.2.2.2 c (by omega) g.2
  unfold par at p
  rw [getD_nd g.2] at p ⊢
  rw [p, Int.toNat_natCast] at s
  exact ⟨s.2.2.2.2, s.2.2.1, s.2.2.2.1⟩
theorem kidAt_some {t : List ND} {i : Nat} {x : Int} {c : Nat} (h : (kids t i).find? (fun c => (t.getD c zND).f0 = x) = some c) : kidAt t i x = c ∧ c ∈ kids t i ∧ (t.getD c zND).f0 = x := by
  refine ⟨by unfold kidAt; rw [h]; rfl, List.mem_of_find?_eq_some h, ?_⟩
  have := List.find?_some h
  simpa using this
theorem letterB_inj {x y : Int} (hx : 0 ≤ x ∧ x ≤ 25) (hy : 0 ≤ y ∧ y ≤ 25) (h : letterB x = letterB y) : x = y := by
  unfold letterB at h
  have := congrArg UInt8.toNat h
  rw [UInt8.toNat_ofNat', UInt8.toNat_ofNat'] at this
  omega
theorem letterB_nat {x : Int} (hx : 0 ≤ x ∧ x ≤ 25) : ((letterB x).toNat : Int) = 97 + x := by
  unfold letterB
  rw [UInt8.toNat_ofNat']
  omega
/-- Each beginning but the empty one has that without its last letter. -/
theorem GOk.up {t : List ND} {P : List Wd} (h : GOk t P) {p : Wd} {b : UInt8} (hp : p ++ [b] ∈ P) : ∃ i c, i < t.length ∧ c ∈ kids t i ∧ P.getD i [] = p ∧ P.getD c [] = p ++ [b] ∧ letterB (t.getD c zND).f0 = b := by
  obtain ⟨c, hc, e⟩ := List.getElem_of_mem hp
  have hct : c < t.length := by rw [← h.plen]; exact hc
  have e' : P.getD c [] = p ++ [b] := by rw [List.getD_eq_getElem?_getD, List.getElem?_eq_getElem hc, Option.getD_some, e]
  have h0 : 0 < c := by
    rcases Nat.eq_zero_or_pos c with rfl | h0
    · rw [(prefP_spec h.pre).2.2.2.1] at e'
      have := congrArg List.length e'
      simp at this
    · exact h0
  have hr := h.par_lt hct h0
  have hk : c ∈ kids t (par t c).toNat := mem_kids.2 ⟨hct, by omega⟩
  have w := h.kid_word hk
  rw [e'] at w
  have w1 := List.append_inj' w.1 rfl
  exact ⟨(par t c).toNat, c, by omega, hk, w1.1.symm, e', by have := w1.2; simp at this; exact this.symm⟩
theorem GOk.mem {t : List ND} {P : List Wd} (h : GOk t P) {i : Nat} (hi : i < t.length) : P.getD i [] ∈ P := by
  rw [List.getD_eq_getElem?_getD, List.getElem?_eq_getElem (by rw [h.plen]; exact hi)]
  exact List.getElem_mem _
/-- With a beginning all its beginnings are there. -/
theorem GOk.take_mem {t : List ND} {P : List Wd} (h : GOk t P) {w : Wd} (hw : w ∈ P) : ∀ n, n ≤ w.length → w.take (w.length - n) ∈ P
  | 0, _ => by rw [Nat.sub_zero, List.take_length]; exact hw
  | n + 1, hn => by
    have ih := h.take_mem hw n (by omega)
    rw [show w.length - n = (w.length - (n + 1)) + 1 by omega, List.take_succ_eq_append_getElem (by omega)] at ih
    obtain ⟨i, c, hi, _, e, _⟩ := h.up ih
    rw [← e]
    exact h.mem hi
end Go.Proofs.YtcplbbflfgckbabGreatDoor.Pl
/- Plain: the game's nodes: fatal ones, open ones; the game that is set up. -/

namespace Go.Proofs.YtcplbbflfgckbabGreatDoor.Pl
open Go.RowKit Go.Ab.Pw Go.Proofs.YtcplbbflfgckbabGreatDoorW.PrintWords Go.Proofs.YtcplbbflfgckbabGreatDoorW.PrintLast Go.Proofs.YtcplbbflfgckbabGreatDoorW.PrintMore Go.Proofs.YtcplbbflfgckbabGreatDoor.X

/-- Who makes a fatal node loses. -/
def fatal (t : List ND) (P : List Wd) (n : Int) (i : Nat) : Bool := (t.getD i zND).f2 && decide (((P.getD i []).length : Int) ≥ n)
/-! ### the game that is set up -/
def GdN (t : List ND) (node n : Int) : Prop := isT t = true ∧ (0 ≤ node ∧ node < (t.length : Int)) ∧ 1 ≤ n ∧ n ≤ 6
/-- A good node is one of a trie, with all that is known of it. -/
theorem GdN.get {t : List ND} {node n : Int} (h : GdN t node n) : ∃ P, GOk t P ∧ isT t = true ∧ (1 ≤ n ∧ n ≤ 6) ∧ ∃ i : Nat, node = i ∧ i < t.length := by
  obtain ⟨P, hP⟩ := ((isT_iff t).1 h.1).gok
  obtain ⟨_, ⟨_, _⟩, _⟩ := h
  exact ⟨P, hP, ‹_›, ‹_›, node.toNat, by omega, by omega⟩
end Go.Proofs.YtcplbbflfgckbabGreatDoor.Pl
/- Plain: the kids of a node. -/

namespace Go.Proofs.YtcplbbflfgckbabGreatDoor.Pl
open Go.RowKit Go.Ab.Pw Go.Proofs.YtcplbbflfgckbabGreatDoorW.PrintWords Go.Proofs.YtcplbbflfgckbabGreatDoorW.PrintLast Go.Proofs.YtcplbbflfgckbabGreatDoorW.PrintMore Go.Proofs.YtcplbbflfgckbabGreatDoor.X

end Go.Proofs.YtcplbbflfgckbabGreatDoor.Pl
/- Plain: what the questions about a trie's nodes and words answer, on both sides. -/
namespace Go.Proofs.YtcplbbflfgckbabGreatDoor.Pl
open Go.RowKit Go.Ab.Pw Go.Proofs.YtcplbbflfgckbabGreatDoorW.PrintWords Go.Proofs.YtcplbbflfgckbabGreatDoorW.PrintLast Go.Proofs.YtcplbbflfgckbabGreatDoorW.PrintMore Go.Proofs.YtcplbbflfgckbabGreatDoor.X

theorem WOk.gok {ws : List Wd} (h : WOk ws) : GOk (trie ws) (prefs ws) := gok_trie h.ok h.le
/-- A place of a row of n. -/
def isAt (n : Nat) (i : Int) : Prop := 0 ≤ i ∧ i < (n : Int)
instance (n : Nat) (i : Int) : Decidable (isAt n i) := inferInstanceAs (Decidable (_ ∧ _))
theorem isAt.nat {n : Nat} {i : Int} (h : isAt n i) : ∃ j : Nat, i = j ∧ j < n := ⟨i.toNat, by have := h.1; omega, by have := h.1; have := h.2; omega⟩
theorem countWords_i {ws : List Wd} (h : WOk ws) : Ev (fun k => impl_CountWords.f k (trie ws)) ((ws.length : Int), true) := by
  unfold impl_CountWords.f
  refine Ev.bind h.trieT (ev_pos rfl (Ev.bind h.words (ev_eq ?_)))
  rw [List.length_map]
theorem countWords_i0 {t : List ND} (ht : t.length ≤ 2000000) (h : isT t = false) : Ev (fun k => impl_CountWords.f k t) (0, false) := by
  unfold impl_CountWords.f
  exact Ev.bind (noT_i ht h) (ev_neg (by decide) (ev_eq rfl))
def wordAtR (ws : List Wd) (i : Int) : ByteArray × Bool := if isAt ws.length i then (wb (ws.getD i.toNat []), true) else (⟨#[]⟩, false)
theorem wordAt_i {ws : List Wd} (h : WOk ws) (i : Int) : Ev (fun k => impl_WordAt.f k (trie ws) i) (wordAtR ws i) := by
  unfold impl_WordAt.f wordAtR
  have hle := h.le
  refine Ev.bind h.trieT (ev_pos rfl (Ev.bind h.words ?_))
  rw [List.length_map, w64 (by omega) (by omega), in_eq]
  refine ev_some ?_
  by_cases hi : isAt ws.length i
  · rw [if_pos hi]
    obtain ⟨j, rfl, hj⟩ := hi.nat
    refine ev_pos (decide_eq_true (by omega)) (Ev.bind h.words (ev_pos (by omega) (ev_pos (by rw [List.length_map]; omega) ?_)))
    rw [getD_wb _ _ hj]
    exact ev_eq rfl
  · rw [if_neg hi]
    exact ev_neg (by rw [decide_eq_true_eq]; unfold isAt at hi; omega) (ev_eq rfl)
theorem wordAt_i0 {t : List ND} (ht : t.length ≤ 2000000) (h : isT t = false) (i : Int) : Ev (fun k => impl_WordAt.f k t i) (⟨#[]⟩, false) := by
  unfold impl_WordAt.f
  exact Ev.bind (noT_i ht h) (ev_neg (by decide) (ev_eq rfl))
end Go.Proofs.YtcplbbflfgckbabGreatDoor.Pl
