import Derived.Shelf.SlSortCmp.Small
import Derived.Sort.LotA
set_option linter.unusedVariables false
set_option linter.unusedSimpArgs false
namespace Go.Proofs.Ytknonolfgpknjaa.Pl
open Go.Sort Go.Proofs
variable {α β : Type} [Inhabited α] [Inhabited β]
theorem get_map (f : α → β) (d : Array α) (i : Nat) (h : i < d.size) : (d.map f)[i]! = f d[i]! := by
  rw [getElem!_pos d i h, getElem!_pos (d.map f) i (by simpa using h), Array.getElem_map]
theorem swp_map (f : α → β) (d : Array α) (i j : Nat) (hi : i < d.size) (hj : j < d.size) : (swp d i j).map f = swp (d.map f) i j := by
  unfold swp
  rw [get_map f d i hi, get_map f d j hj]
  simp
theorem inner_map (f : α → β) (lt : β → β → Bool) (a : Nat) : ∀ (j : Nat) (d : Array α), j < d.size → (insInner (fun x y => lt (f x) (f y)) a j d).map f = insInner lt a j (d.map f)
  | 0, d, _ => by rw [insInner, insInner]
  | j + 1, d, h => by
    rw [insInner, insInner, get_map f d (j + 1) h, get_map f d j (by omega)]
    by_cases hc : (decide (j + 1 > a) && lt (f d[j + 1]!) (f d[j]!)) = true
    · rw [if_pos hc, if_pos hc, inner_map f lt a j _ (by rw [swp_size]; omega), swp_map f d (j + 1) j h (by omega)]
    · rw [if_neg hc, if_neg hc]
theorem inner_size (lt : α → α → Bool) (a : Nat) : ∀ (j : Nat) (d : Array α), (insInner lt a j d).size = d.size
  | 0, d => by rw [insInner]
  | j + 1, d => by
    rw [insInner]
    split
    · rw [inner_size lt a j, swp_size]
    · rfl
theorem outer_go (lt : α → α → Bool) {a b i : Nat} {d : Array α} (h : i < b) : insOuter lt a b i d = insOuter lt a b (i + 1) (insInner lt a i d) := by rw [insOuter, if_pos h]
theorem outer_stop (lt : α → α → Bool) {a b i : Nat} {d : Array α} (h : ¬ i < b) : insOuter lt a b i d = d := by rw [insOuter, if_neg h]
theorem outer_map (f : α → β) (lt : β → β → Bool) (a b : Nat) : ∀ (n i : Nat) (d : Array α), b - i ≤ n → b ≤ d.size → (insOuter (fun x y => lt (f x) (f y)) a b i d).map f = insOuter lt a b i (d.map f)
  | 0, i, d, h, _ => by rw [outer_stop _ (by omega), outer_stop _ (by omega)]
  | n + 1, i, d, h, hb => by
    by_cases hi : i < b
    · rw [outer_go _ hi, outer_go _ hi, outer_map f lt a b n (i + 1) _ (by omega) (by rw [inner_size]; omega), inner_map f lt a i d (by omega)]
    · rw [outer_stop _ hi, outer_stop _ hi]
theorem sort_map (f : α → β) (lt : β → β → Bool) (d : Array α) (a b : Nat) (hb : b ≤ d.size) : (insertionSort (fun x y => lt (f x) (f y)) d a b).map f = insertionSort lt (d.map f) a b := outer_map f lt a b b (a + 1) d (by omega) hb
/-- On what ascends by a second order, an order and it with the second one behind it sort alike. -/
theorem inner_two (lt lt2 : α → α → Bool) (a : Nat) (x : α) : ∀ (j : Nat) (d : Array α), j < d.size → d[j]! = x → (∀ i, i < j → lt x d[i]! = lt2 x d[i]!) → insInner lt a j d = insInner lt2 a j d
  | 0, d, _, _, _ => by rw [insInner, insInner]
  | j + 1, d, h, hx, he => by
    rw [insInner, insInner, hx, he j (by omega)]
    split
    · refine inner_two lt lt2 a x j _ (by rw [swp_size]; omega) ?_ ?_
      · rw [swp, getElem!_pos _ j (by simp; omega)]; simp [hx]
      · intro i hi
        have : (swp d (j + 1) j)[i]! = d[i]! := by
          rw [swp]
          rw [getElem!_pos _ i (by simp; omega), getElem!_pos d i (by omega), Array.getElem_setIfInBounds (by simp; omega), if_neg (by omega), Array.getElem_setIfInBounds (by omega), if_neg (by omega)]
        rw [this]; exact he i (by omega)
    · rfl
theorem swp_get (d : Array α) (i j k : Nat) (hi : i < d.size) (hj : j < d.size) (hk : k < d.size) : (swp d i j)[k]! = if k = j then d[i]! else if k = i then d[j]! else d[k]! := by
  rw [swp, getElem!_pos _ k (by simp; omega), Array.getElem_setIfInBounds (by simp; omega)]
  by_cases h : j = k
  · rw [if_pos h, if_pos h.symm]
  · rw [if_neg h, if_neg (Ne.symm h), Array.getElem_setIfInBounds (by omega)]
    by_cases h2 : i = k
    · rw [if_pos h2, if_pos h2.symm]
    · rw [if_neg h2, if_neg (Ne.symm h2), getElem!_pos d k hk]
theorem inner_keep (lt : α → α → Bool) (a : Nat) : ∀ (j : Nat) (d : Array α), j < d.size → (∀ k, j < k → k < d.size → (insInner lt a j d)[k]! = d[k]!) ∧ (∀ p : α → Prop, (∀ k, k ≤ j → p d[k]!) → ∀ k, k ≤ j → p (insInner lt a j d)[k]!)
  | 0, d, _ => by rw [insInner]; exact ⟨fun _ _ _ => rfl, fun _ h => h⟩
  | j + 1, d, h => by
    rw [insInner]
    split
    · obtain ⟨h1, h2⟩ := inner_keep lt a j (swp d (j + 1) j) (by rw [swp_size]; omega)
      refine ⟨fun k hk hs => ?_, fun p hp k hk => ?_⟩
      · rw [h1 k (by omega) (by rw [swp_size]; exact hs), swp_get d _ _ k h (by omega) hs, if_neg (by omega), if_neg (by omega)]
      · by_cases e : k = j + 1
        · subst e
          rw [h1 (j + 1) (by omega) (by rw [swp_size]; exact h), swp_get d _ _ _ h (by omega) h, if_neg (by omega), if_pos rfl]
          exact hp j (by omega)
        · refine h2 p (fun q hq => ?_) k (by omega)
          rw [swp_get d _ _ q h (by omega) (by omega)]
          split
          · exact hp (j + 1) (by omega)
          · split
            · exact hp j (by omega)
            · exact hp q (by omega)
    · exact ⟨fun _ _ _ => rfl, fun _ h => h⟩
/-- Numbers that ascend, sorted by c alone or by c and themselves. -/
theorem outer_two (c : Int → Int) (n : Nat) : ∀ (m i : Nat) (d : Array Int), n - i ≤ m → d.size = n → (∀ k, i ≤ k → k < n → d[k]! = (k : Int)) → (∀ k, k < i → k < n → d[k]! < (i : Int)) →
    insOuter (fun x y => decide (c x < c y)) 0 n i d = insOuter (fun x y => decide (c x < c y ∨ (c x = c y ∧ x < y))) 0 n i d
  | 0, i, d, h, _, _, _ => by rw [outer_stop _ (by omega), outer_stop _ (by omega)]
  | m + 1, i, d, h, hs, h1, h2 => by
    by_cases hi : i < n
    · have e : insInner (fun x y => decide (c x < c y)) 0 i d = insInner (fun x y => decide (c x < c y ∨ (c x = c y ∧ x < y))) 0 i d := by
        refine inner_two _ _ 0 (i : Int) i d (by omega) (h1 i (Nat.le_refl _) hi) (fun k hk => ?_)
        have := h2 k hk (by omega)
        simp only [decide_eq_decide]
        omega
      obtain ⟨k1, k2⟩ := inner_keep (fun x y => decide (c x < c y ∨ (c x = c y ∧ x < y))) 0 i d (by omega)
      rw [outer_go _ hi, outer_go _ hi, e]
      refine outer_two c n m (i + 1) _ (by omega) (by rw [inner_size]; exact hs) (fun k hk hn => ?_) (fun k hk hn => ?_)
      · rw [k1 k (by omega) (by omega)]; exact h1 k (by omega) hn
      · have := k2 (fun x => x < ((i : Int) + 1)) (fun q hq => by
          by_cases e : q = i
          · subst e; rw [h1 q (Nat.le_refl _) hi]; omega
          · have := h2 q (by omega) (by omega); omega) k (by omega)
        push_cast; exact this
    · rw [outer_stop _ hi, outer_stop _ hi]
theorem two_swo (c : Int → Int) : SWO (fun x y : Int => decide (c x < c y ∨ (c x = c y ∧ x < y))) where
  irrefl x := by simp
  trans x y z h1 h2 := by simp only [decide_eq_true_eq] at *; omega
  ntrans x y z h1 h2 := by simp only [decide_eq_false_iff_not] at *; omega
/-- The numbers from 0 on, sorted by c in a stable way. -/
theorem stable_iota (c : Int → Int) (n : Nat) (d : Array Int) (hs : d.size = n) (hd : ∀ k, k < n → d[k]! = (k : Int)) (h0 : 0 < n) :
    PermIn 0 n d (insertionSort (fun x y => decide (c x < c y)) d 0 n) ∧ SortedIn (fun x y => decide (c x < c y ∨ (c x = c y ∧ x < y))) 0 n (insertionSort (fun x y => decide (c x < c y)) d 0 n) := by
  have e : insertionSort (fun x y => decide (c x < c y)) d 0 n = insertionSort (fun x y => decide (c x < c y ∨ (c x = c y ∧ x < y))) d 0 n := by
    unfold insertionSort
    exact outer_two c n n (0 + 1) d (by omega) hs (fun k _ hk => hd k hk) (fun k hk hn => by rw [hd k hn]; omega)
  rw [e]
  exact insertionSort_holds (two_swo c) d 0 n (Nat.zero_le _) (by omega)
theorem inner_congr {lt lt2 : α → α → Bool} {p : α → Prop} (h : ∀ x y, p x → p y → lt x y = lt2 x y) (a : Nat) : ∀ (j : Nat) (d : Array α), j < d.size → (∀ k, k < d.size → p d[k]!) → insInner lt a j d = insInner lt2 a j d
  | 0, d, _, _ => by rw [insInner, insInner]
  | j + 1, d, hj, hp => by
    rw [insInner, insInner, h _ _ (hp (j + 1) hj) (hp j (by omega))]
    split
    · refine inner_congr h a j _ (by rw [swp_size]; omega) (fun k hk => ?_)
      rw [swp_size] at hk
      rw [swp_get d _ _ k hj (by omega) hk]
      split
      · exact hp (j + 1) hj
      · split
        · exact hp j (by omega)
        · exact hp k hk
    · rfl
theorem outer_congr {lt lt2 : α → α → Bool} {p : α → Prop} (h : ∀ x y, p x → p y → lt x y = lt2 x y) (a b : Nat) : ∀ (n i : Nat) (d : Array α), b - i ≤ n → b ≤ d.size → (∀ k, k < d.size → p d[k]!) → insOuter lt a b i d = insOuter lt2 a b i d
  | 0, i, d, hn, _, _ => by rw [outer_stop _ (by omega), outer_stop _ (by omega)]
  | n + 1, i, d, hn, hb, hp => by
    by_cases hi : i < b
    · rw [outer_go _ hi, outer_go _ hi, inner_congr h a i d (by omega) hp]
      obtain ⟨k1, k2⟩ := inner_keep lt2 a i d (by omega)
      refine outer_congr h a b n (i + 1) _ (by omega) (by rw [inner_size]; exact hb) (fun k hk => ?_)
      rw [inner_size] at hk
      by_cases hki : k ≤ i
      · exact k2 p (fun q hq => hp q (by omega)) k hki
      · rw [k1 k (by omega) hk]; exact hp k hk
    · rw [outer_stop _ hi, outer_stop _ hi]
theorem sort_congr {lt lt2 : α → α → Bool} {p : α → Prop} (h : ∀ x y, p x → p y → lt x y = lt2 x y) (d : Array α) (a b : Nat) (hb : b ≤ d.size) (hp : ∀ k, k < d.size → p d[k]!) : insertionSort lt d a b = insertionSort lt2 d a b := outer_congr h a b b (a + 1) d (by omega) hb hp
end Go.Proofs.Ytknonolfgpknjaa.Pl
