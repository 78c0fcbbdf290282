/- Plain: words as lists of bytes: their order, sorted lists with each word once, beginnings. No program in it. -/
import Derived.Test.YtcplbbflfgckbaaGreatDoorPl
import Derived.Lib.SlicesCompact
import Derived.Lib.RowBridge
import Derived.Sort.Walk0
set_option linter.unusedVariables false
set_option linter.unusedSimpArgs false
namespace Go.Proofs.YtcplbbflfgckbaaGreatDoor.Pl
open Go.RowKit Go.Proofs.YtcplbbflfgckbaaGreatDoorW.PrintWords

abbrev Wd := List UInt8
def bw (s : ByteArray) : Wd := s.data.toList
def wb (l : Wd) : ByteArray := ⟨l.toArray⟩
theorem bw_wb (l : Wd) : bw (wb l) = l := by simp [bw, wb]
theorem wb_bw (s : ByteArray) : wb (bw s) = s := by simp [bw, wb]
theorem bw_inj {s t : ByteArray} (h : bw s = bw t) : s = t := by rw [← wb_bw s, h, wb_bw]
theorem bw_size (s : ByteArray) : (bw s).length = s.size := Array.length_toList
theorem wb_size (l : Wd) : (wb l).size = l.length := by simp [wb, ByteArray.size]
theorem toList_bw (s : ByteArray) : s.toList = bw s := toList_bytes s
/-! ### the order -/
theorem lt_irr (a : Wd) : ¬ a < a := List.lt_irrefl a
theorem lt_tr {a b c : Wd} (h1 : a < b) (h2 : b < c) : a < c := List.lt_trans h1 h2
theorem lt_tri (a b : Wd) : a < b ∨ a = b ∨ b < a := by
  by_cases h1 : a < b
  · exact .inl h1
  · by_cases h2 : b < a
    · exact .inr (.inr h2)
    · exact .inr (.inl (List.le_antisymm (List.not_lt.1 h2) (List.not_lt.1 h1)))
theorem le_of_lt' {a b : Wd} (h : a < b) : a ≤ b := List.le_of_lt h
theorem le_iff (a b : Wd) : a ≤ b ↔ a < b ∨ a = b := by
  constructor
  · intro h
    rcases lt_tri a b with h1 | h1 | h1
    · exact .inl h1
    · exact .inr h1
    · exact absurd h1 (List.not_lt.2 h)
  · rintro (h | rfl)
    · exact le_of_lt' h
    · exact List.le_refl _
theorem lt_append (a : Wd) (x : UInt8) (b : Wd) : a < a ++ x :: b := by
  induction a with
  | nil => exact List.Lex.nil
  | cons y a ih => exact List.Lex.cons ih
theorem lt_take {w : Wd} {n : Nat} (h : n < w.length) : w.take n < w := by
  have e : w = w.take n ++ w[n] :: w.drop (n + 1) := by rw [← List.drop_eq_getElem_cons h, List.take_append_drop]
  exact Eq.mp (congrArg (fun z => w.take n < z) e.symm) (lt_append _ _ _)
/-! ### sorted, each once -/
def SS (l : List Wd) : Prop := l.Pairwise (· < ·)
theorem SS.ext : ∀ {l m : List Wd}, SS l → SS m → (∀ x, x ∈ l ↔ x ∈ m) → l = m
  | [], [], _, _, _ => rfl
  | [], y :: m, _, _, h => absurd ((h y).2 List.mem_cons_self) (by simp)
  | x :: l, [], _, _, h => absurd ((h x).1 List.mem_cons_self) (by simp)
  | x :: l, y :: m, hl, hm, h => by
    have hl' := List.pairwise_cons.1 hl
    have hm' := List.pairwise_cons.1 hm
    have e : x = y := by
      rcases lt_tri x y with h1 | h1 | h1
      · rcases List.mem_cons.1 ((h x).1 List.mem_cons_self) with rfl | h2
        · rfl
        · exact absurd (lt_tr h1 (hm'.1 x h2)) (lt_irr _)
      · exact h1
      · rcases List.mem_cons.1 ((h y).2 List.mem_cons_self) with rfl | h2
        · rfl
        · exact absurd (lt_tr h1 (hl'.1 y h2)) (lt_irr _)
    subst e
    congr 1
    refine SS.ext hl'.2 hm'.2 fun z => ⟨fun hz => ?_, fun hz => ?_⟩
    · rcases List.mem_cons.1 ((h z).1 (List.mem_cons_of_mem _ hz)) with rfl | h2
      · exact absurd (hl'.1 z hz) (lt_irr _)
      · exact h2
    · rcases List.mem_cons.1 ((h z).2 (List.mem_cons_of_mem _ hz)) with rfl | h2
      · exact absurd (hm'.1 z hz) (lt_irr _)
      · exact h2
/-- A word put to its place, once. -/
def ins : List Wd → Wd → List Wd
  | [], w => [w]
  | x :: l, w => if x < w then x :: ins l w else if x = w then x :: l else w :: x :: l
theorem mem_ins (l : List Wd) (w x : Wd) : x ∈ ins l w ↔ x = w ∨ x ∈ l := by
  induction l with
  | nil => simp [ins]
  | cons y l ih =>
    unfold ins
    by_cases h1 : y < w
    · rw [if_pos h1, List.mem_cons, ih, List.mem_cons]
      constructor
      · rintro (h | h | h)
        · exact .inr (.inl h)
        · exact .inl h
        · exact .inr (.inr h)
      · rintro (h | h | h)
        · exact .inr (.inl h)
        · exact .inl h
        · exact .inr (.inr h)
    · rw [if_neg h1]
      by_cases h2 : y = w
      · rw [if_pos h2]; subst h2; simp
      · rw [if_neg h2]; simp
theorem ins_SS {l : List Wd} (h : SS l) (w : Wd) : SS (ins l w) := by
  induction l with
  | nil => simp [ins, SS]
  | cons y l ih =>
    have h' := List.pairwise_cons.1 h
    unfold ins
    by_cases h1 : y < w
    · rw [if_pos h1]
      refine List.pairwise_cons.2 ⟨fun z hz => ?_, ih h'.2⟩
      rcases (mem_ins l w z).1 hz with rfl | hz
      · exact h1
      · exact h'.1 z hz
    · rw [if_neg h1]
      by_cases h2 : y = w
      · rw [if_pos h2]; exact h
      · rw [if_neg h2]
        have h3 : w < y := by
          rcases lt_tri y w with h4 | h4 | h4
          · exact absurd h4 h1
          · exact absurd h4 h2
          · exact h4
        refine List.pairwise_cons.2 ⟨fun z hz => ?_, h⟩
        rcases List.mem_cons.1 hz with rfl | hz
        · exact h3
        · exact lt_tr h3 (h'.1 z hz)
/-- The words of a list, sorted, each once. -/
def setW (l : List Wd) : List Wd := Lib.compact (l.mergeSort fun x y => decide (x ≤ y))
theorem sorted_le (l : List Wd) : (l.mergeSort fun x y => decide (x ≤ y)).Pairwise (· ≤ ·) := by
  have h := List.pairwise_mergeSort (le := fun x y : Wd => decide (x ≤ y)) (fun a b c h1 h2 => by
    simp only [decide_eq_true_eq] at h1 h2 ⊢; exact List.le_trans h1 h2) (fun a b => by
    simp only [Bool.or_eq_true, decide_eq_true_eq]; exact List.le_total a b) l
  exact h.imp (fun h => by simpa using h)
theorem getE_eq {l : List Wd} {i : Nat} (h : i < l.length) : l.toArray[i]! = l[i] := by
  rw [getElem!_pos l.toArray i (by simpa using h)]; simp
theorem mem_compact (l : List Wd) (x : Wd) : x ∈ Lib.compact l ↔ x ∈ l := by
  unfold Lib.compact Lib.compactUpTo
  rw [List.mem_map]
  constructor
  · rintro ⟨i, hi, rfl⟩
    have hi' := List.mem_range.1 (List.mem_filter.1 hi).1
    rw [getE_eq hi']
    exact List.getElem_mem hi'
  · intro hx
    obtain ⟨n, hn, hnx⟩ := List.getElem_of_mem hx
    have key : ∀ d n (hn : n < l.length), n ≤ d → l[n] = x → ∃ i, i ∈ (List.range l.length).filter (Lib.keeps l.toArray) ∧ l.toArray[i]! = x := by
      intro d
      induction d with
      | zero =>
        intro n hn hd he
        obtain rfl : n = 0 := by omega
        exact ⟨0, List.mem_filter.2 ⟨List.mem_range.2 hn, by simp [Lib.keeps]⟩, by rw [getE_eq hn]; exact he⟩
      | succ d ih =>
        intro n hn hd he
        by_cases hk : Lib.keeps l.toArray n = true
        · exact ⟨n, List.mem_filter.2 ⟨List.mem_range.2 hn, hk⟩, by rw [getE_eq hn]; exact he⟩
        · have h0 : n ≠ 0 := fun e => hk (by subst e; simp [Lib.keeps])
          have h1 : l.toArray[n]! = l.toArray[n - 1]! := by
            simp only [Lib.keeps, decide_eq_true_eq, not_or, Classical.not_not] at hk
            exact hk.2
          rw [getE_eq hn, getE_eq (by omega : n - 1 < l.length)] at h1
          exact ih (n - 1) (by omega) (by omega) (h1.symm.trans he)
    exact key n n hn (Nat.le_refl _) hnx
theorem compact_SS {l : List Wd} (h : l.Pairwise (· ≤ ·)) : SS (Lib.compact l) := by
  unfold SS Lib.compact Lib.compactUpTo
  rw [List.pairwise_map]
  have hr : ((List.range l.length).filter (Lib.keeps l.toArray)).Pairwise (· < ·) := List.pairwise_lt_range.filter _
  refine List.Pairwise.imp_of_mem ?_ hr
  intro i j hi hj hij
  have hi' := List.mem_range.1 (List.mem_filter.1 hi).1
  have hj' := List.mem_range.1 (List.mem_filter.1 hj).1
  have hk := (List.mem_filter.1 hj).2
  rw [getE_eq hi', getE_eq hj']
  have mono : ∀ a b (ha : a < l.length) (hb : b < l.length), a ≤ b → l[a] ≤ l[b] := by
    intro a b ha hb hab
    rcases Nat.lt_or_ge a b with h1 | h1
    · exact List.pairwise_iff_getElem.1 h a b ha hb h1
    · obtain rfl : a = b := by omega
      exact List.le_refl _
  rcases (le_iff _ _).1 (mono i j hi' hj' (by omega)) with h1 | h1
  · exact h1
  · exfalso
    have h2 := mono i (j - 1) hi' (by omega) (by omega)
    have h3 := mono (j - 1) j (by omega) hj' (by omega)
    have e : l[j] = l[j - 1]'(by omega) := by
      rw [h1] at h2
      exact List.le_antisymm h2 h3
    simp only [Lib.keeps, decide_eq_true_eq] at hk
    rw [getE_eq hj', getE_eq (by omega : j - 1 < l.length)] at hk
    rcases hk with hk | hk
    · omega
    · exact hk e
theorem setW_SS (l : List Wd) : SS (setW l) := compact_SS (sorted_le l)
theorem mem_setW (l : List Wd) (x : Wd) : x ∈ setW l ↔ x ∈ l := by
  unfold setW
  rw [mem_compact, List.mem_mergeSort]
theorem setW_length (l : List Wd) : (setW l).length ≤ l.length := by
  unfold setW
  have := Lib.compact_length_le (l.mergeSort fun x y => decide (x ≤ y))
  rwa [List.length_mergeSort] at this
theorem setW_of_SS {l : List Wd} (h : SS l) : setW l = l := (setW_SS l).ext h (fun x => mem_setW l x)
theorem SS.nodup {l : List Wd} (h : SS l) : l.Nodup := h.imp (fun h e => by subst e; exact lt_irr _ h)
/-! ### beginnings -/
/-- All beginnings of a word but the empty one. -/
def inits (w : Wd) : List Wd := (List.range w.length).map fun n => w.take (n + 1)
theorem mem_inits (w p : Wd) : p ∈ inits w ↔ p <+: w ∧ p ≠ [] := by
  unfold inits
  rw [List.mem_map]
  constructor
  · rintro ⟨n, hn, rfl⟩
    have hn := List.mem_range.1 hn
    refine ⟨List.take_prefix _ _, fun e => ?_⟩
    have := congrArg List.length e
    rw [List.length_take, List.length_nil] at this
    omega
  · rintro ⟨h, hne⟩
    have hl := h.length_le
    have h0 : 0 < p.length := List.length_pos_iff.2 hne
    exact ⟨p.length - 1, List.mem_range.2 (by omega), by rw [Nat.sub_add_cancel h0]; exact (List.prefix_iff_eq_take.1 h).symm⟩
/-- The beginnings of all words, the empty one too, sorted. -/
def prefs (ws : List Wd) : List Wd := setW ([] :: ws.flatMap inits)
theorem mem_prefs (ws : List Wd) (p : Wd) : p ∈ prefs ws ↔ p = [] ∨ ∃ w ∈ ws, p <+: w := by
  unfold prefs
  rw [mem_setW, List.mem_cons, List.mem_flatMap]
  constructor
  · rintro (h | ⟨w, hw, h⟩)
    · exact .inl h
    · exact .inr ⟨w, hw, ((mem_inits w p).1 h).1⟩
  · rintro (h | ⟨w, hw, h⟩)
    · exact .inl h
    · by_cases e : p = []
      · exact .inl e
      · exact .inr ⟨w, hw, (mem_inits w p).2 ⟨h, e⟩⟩
theorem prefs_SS (ws : List Wd) : SS (prefs ws) := setW_SS _
theorem prefs_congr {ws vs : List Wd} (h : ∀ x, x ∈ ws ↔ x ∈ vs) : prefs ws = prefs vs :=
  (prefs_SS ws).ext (prefs_SS vs) (fun p => by
    rw [mem_prefs, mem_prefs]
    exact or_congr Iff.rfl ⟨fun ⟨w, hw, hp⟩ => ⟨w, (h w).1 hw, hp⟩, fun ⟨w, hw, hp⟩ => ⟨w, (h w).2 hw, hp⟩⟩)
theorem flat_length {ws : List Wd} {m : Nat} (h : ∀ w ∈ ws, w.length ≤ m) : (ws.flatMap inits).length ≤ ws.length * m := by
  induction ws with
  | nil => simp
  | cons w ws ih =>
    rw [List.flatMap_cons, List.length_append, List.length_cons, Nat.add_mul, Nat.one_mul]
    have h1 := h w List.mem_cons_self
    have h2 := ih (fun v hv => h v (List.mem_cons_of_mem _ hv))
    have h3 : (inits w).length = w.length := by simp [inits]
    omega
theorem prefs_length {ws : List Wd} {m : Nat} (h : ∀ w ∈ ws, w.length ≤ m) : (prefs ws).length ≤ ws.length * m + 1 := by
  have h1 := setW_length ([] :: ws.flatMap inits)
  have h2 := flat_length h
  unfold prefs
  rw [List.length_cons] at h1
  omega
theorem dropLast_prefix' {p w : Wd} (h : p <+: w) : p.dropLast <+: w := (List.dropLast_prefix p).trans h
theorem dropLast_mem {ws : List Wd} {p : Wd} (h : p ∈ prefs ws) : p.dropLast ∈ prefs ws := by
  rw [mem_prefs] at h ⊢
  rcases h with rfl | ⟨w, hw, hp⟩
  · exact .inl rfl
  · exact .inr ⟨w, hw, dropLast_prefix' hp⟩
theorem dropLast_lt {p : Wd} (h : p ≠ []) : p.dropLast < p := by
  rw [List.dropLast_eq_take]
  exact lt_take (by have := List.length_pos_iff.2 h; omega)
theorem prefs_head (ws : List Wd) : ∃ l, prefs ws = [] :: l := by
  have h := prefs_SS ws
  have h0 : ([] : Wd) ∈ prefs ws := (mem_prefs ws []).2 (.inl rfl)
  cases e : prefs ws with
  | nil => rw [e] at h0; simp at h0
  | cons x l =>
    refine ⟨l, ?_⟩
    rw [e] at h h0
    rcases List.mem_cons.1 h0 with h1 | h1
    · rw [h1]
    · exact absurd ((List.pairwise_cons.1 h).1 [] h1) (List.not_lt_nil x)
/-- Where a word stands in a sorted list. -/
theorem SS.idx_lt {l : List Wd} (h : SS l) {i j : Nat} (hi : i < l.length) (hj : j < l.length) (hlt : l[i] < l[j]) : i < j := by
  rcases Nat.lt_or_ge i j with h1 | h1
  · exact h1
  · rcases Nat.lt_or_ge j i with h2 | h2
    · exact absurd (lt_tr hlt (List.pairwise_iff_getElem.1 h j i hj hi h2)) (lt_irr _)
    · obtain rfl : i = j := by omega
      exact absurd hlt (lt_irr _)
end Go.Proofs.YtcplbbflfgckbaaGreatDoor.Pl

