/- Plain: words under a prefix, what words have in common, what tells a word from others: over lists of letters. -/
import Derived.Test.YtcplbbflfgckbaaGreatDoorSets
set_option linter.unusedVariables false
set_option linter.unusedSimpArgs false
namespace Go.Proofs.YtcplbbflfgckbaaGreatDoor.Pl
open Go.RowKit Go.Proofs.YtcplbbflfgckbaaGreatDoorW.PrintWords Go.Proofs.YtcplbbflfgckbaaGreatDoorW.PrintLast Go.Proofs.YtcplbbflfgckbaaGreatDoorW.PrintMore
/-- The words that begin with p. -/
def underL (ws : List Wd) (p : Wd) : List Wd := ws.filter (fun w => p.isPrefixOf w)
theorem mem_under {ws : List Wd} {p w : Wd} : w ∈ underL ws p ↔ w ∈ ws ∧ p <+: w := by unfold underL; rw [List.mem_filter, List.isPrefixOf_iff_prefix]
theorem under_SS {ws : List Wd} (h : SS ws) (p : Wd) : SS (underL ws p) := h.filter _
theorem under_length (ws : List Wd) (p : Wd) : (underL ws p).length ≤ ws.length := List.length_filter_le _ _
theorem under_nil (ws : List Wd) : underL ws [] = ws := List.filter_eq_self.2 (fun _ _ => rfl)
/-- What two words have in common. -/
def lcp : Wd → Wd → Wd
  | a :: x, b :: y => if a = b then a :: lcp x y else []
  | _, _ => []
theorem lcp_left : ∀ x y : Wd, lcp x y <+: x
  | a :: x, b :: y => by
    unfold lcp
    by_cases h : a = b
    · rw [if_pos h]; exact List.cons_prefix_cons.2 ⟨rfl, lcp_left x y⟩
    · rw [if_neg h]; exact List.nil_prefix
  | [], y => by unfold lcp; exact List.nil_prefix
  | a :: x, [] => by unfold lcp; exact List.nil_prefix
theorem lcp_right : ∀ x y : Wd, lcp x y <+: y
  | a :: x, b :: y => by
    unfold lcp
    by_cases h : a = b
    · rw [if_pos h, h]; exact List.cons_prefix_cons.2 ⟨rfl, lcp_right x y⟩
    · rw [if_neg h]; exact List.nil_prefix
  | [], y => by unfold lcp; exact List.nil_prefix
  | a :: x, [] => by unfold lcp; exact List.nil_prefix
theorem lcp_most : ∀ {q x y : Wd}, q <+: x → q <+: y → q <+: lcp x y
  | [], _, _, _, _ => List.nil_prefix
  | c :: q, x, y, h1, h2 => by
    obtain ⟨s, rfl⟩ := h1
    obtain ⟨t, rfl⟩ := h2
    simp only [List.cons_append, lcp, if_true]
    exact List.cons_prefix_cons.2 ⟨rfl, lcp_most ⟨s, rfl⟩ ⟨t, rfl⟩⟩
theorem u8_anti {a b : UInt8} (h1 : ¬ a < b) (h2 : ¬ b < a) : a = b := by
  rw [UInt8.lt_iff_toNat_lt] at h1 h2
  exact UInt8.toNat.inj (by omega)
/-- What stands between two words that begin with q begins with q. -/
theorem between : ∀ {q a x b : Wd}, q <+: a → q <+: b → a ≤ x → x ≤ b → q <+: x
  | [], _, _, _, _, _, _, _ => List.nil_prefix
  | c :: q, a, x, b, h1, h2, h3, h4 => by
    obtain ⟨s, rfl⟩ := h1
    obtain ⟨t, rfl⟩ := h2
    match x with
    | [] => exact absurd (List.nil_lt_cons c (q ++ s)) (List.not_lt.2 h3)
    | d :: x =>
      rw [List.cons_append, ← List.not_lt, List.cons_lt_cons_iff] at h3 h4
      have e : c = d := u8_anti (fun h => h4 (.inl h)) (fun h => h3 (.inl h))
      subst e
      refine List.cons_prefix_cons.2 ⟨rfl, between ⟨s, rfl⟩ ⟨t, rfl⟩ ?_ ?_⟩
      · exact List.not_lt.1 (fun h => h3 (.inr ⟨rfl, h⟩))
      · exact List.not_lt.1 (fun h => h4 (.inr ⟨rfl, h⟩))
/-- What all words have in common, the words in order. -/
def sharedL (ws : List Wd) : Wd := lcp (ws.getD 0 []) (ws.getD (ws.length - 1) [])
theorem getD_mem' {l : List Wd} {i : Nat} (h : i < l.length) : l.getD i [] ∈ l := getD_mem h []
theorem shared_all {ws : List Wd} (hs : SS ws) {w : Wd} (hw : w ∈ ws) : sharedL ws <+: w := by
  obtain ⟨i, hi, rfl⟩ := List.getElem_of_mem hw
  have h0 : 0 < ws.length := by omega
  have e0 : ws.getD 0 [] = ws[0] := by rw [List.getD_eq_getElem?_getD, List.getElem?_eq_getElem h0]; rfl
  have e1 : ws.getD (ws.length - 1) [] = ws[ws.length - 1] := by rw [List.getD_eq_getElem?_getD, List.getElem?_eq_getElem (by omega)]; rfl
  refine between (lcp_left _ _) (lcp_right _ _) ?_ ?_
  · rw [e0]
    rcases Nat.eq_zero_or_pos i with h | h
    · subst h; exact List.le_refl _
    · exact le_of_lt' (List.pairwise_iff_getElem.1 hs 0 i h0 hi h)
  · rw [e1]
    by_cases h : i = ws.length - 1
    · subst h; exact List.le_refl _
    · exact le_of_lt' (List.pairwise_iff_getElem.1 hs i (ws.length - 1) hi (by omega) (by omega))
theorem shared_most {ws : List Wd} (h0 : 0 < ws.length) {q : Wd} (h : ∀ w ∈ ws, q <+: w) : q <+: sharedL ws := lcp_most (h _ (getD_mem' h0)) (h _ (getD_mem' (by omega)))
theorem under_all {ws : List Wd} {q : Wd} : (underL ws q).length = ws.length ↔ ∀ w ∈ ws, q <+: w := by
  unfold underL
  rw [List.length_filter_eq_length_iff]
  simp only [List.isPrefixOf_iff_prefix]
theorem under_eq {ws : List Wd} {q : Wd} (h : ∀ w ∈ ws, q <+: w) : underL ws q = ws := List.filter_eq_self.2 (fun w hw => by rw [List.isPrefixOf_iff_prefix]; exact h w hw)
/-- Words under what the words under p have in common. -/
theorem under_shared {ws : List Wd} (hs : SS ws) {p : Wd} (h0 : 0 < (underL ws p).length) : underL ws (sharedL (underL ws p)) = underL ws p := by
  have hp : p <+: sharedL (underL ws p) := shared_most h0 (fun w hw => (mem_under.1 hw).2)
  unfold underL
  refine List.filter_congr (fun w hw => ?_)
  rw [Bool.eq_iff_iff, List.isPrefixOf_iff_prefix, List.isPrefixOf_iff_prefix]
  exact ⟨fun h => hp.trans h, fun h => shared_all (under_SS hs p) (mem_under.2 ⟨hw, h⟩)⟩
/-- The shortest beginning of w that none of the others has, from n letters on. -/
def uniqFrom (ws : List Wd) (w : Wd) : Nat → Nat → Wd
  | 0, _ => w
  | f + 1, n => if (underL ws (w.take n)).length = 1 then w.take n else uniqFrom ws w f (n + 1)
def uniqL (ws : List Wd) (w : Wd) : Wd := uniqFrom ws w w.length 0
theorem uniq_cases (ws : List Wd) (w : Wd) : ∀ f n, n + f = w.length → (uniqFrom ws w f n = w ∧ ∀ m, n ≤ m → m < w.length → (underL ws (w.take m)).length ≠ 1) ∨ ∃ m, n ≤ m ∧ m < w.length ∧ uniqFrom ws w f n = w.take m ∧ (underL ws (w.take m)).length = 1 ∧ ∀ j, n ≤ j → j < m → (underL ws (w.take j)).length ≠ 1
  | 0, n, h => .inl ⟨rfl, fun m h1 h2 => by omega⟩
  | f + 1, n, h => by
    unfold uniqFrom
    by_cases hc : (underL ws (w.take n)).length = 1
    · rw [if_pos hc]; exact .inr ⟨n, Nat.le_refl _, by omega, rfl, hc, fun j h1 h2 => by omega⟩
    · rw [if_neg hc]
      rcases uniq_cases ws w f (n + 1) (by omega) with ⟨h1, h2⟩ | ⟨m, h1, h2, h3, h4, h5⟩
      · refine .inl ⟨h1, fun m h3 h4 => ?_⟩
        rcases Nat.eq_or_lt_of_le h3 with rfl | h6
        · exact hc
        · exact h2 m h6 h4
      · refine .inr ⟨m, by omega, h2, h3, h4, fun j h6 h7 => ?_⟩
        rcases Nat.eq_or_lt_of_le h6 with rfl | h8
        · exact hc
        · exact h5 j h8 h7
/-- What is known of it. -/
theorem uniq_spec {ws : List Wd} {w : Wd} (hw : w ∈ ws) : uniqL ws w <+: w ∧ (uniqL ws w ≠ w → (underL ws (uniqL ws w)).length = 1) ∧ (0 < (uniqL ws w).length → 2 ≤ (underL ws ((uniqL ws w).take ((uniqL ws w).length - 1))).length) := by
  have one : ∀ m, 1 ≤ (underL ws (w.take m)).length := fun m => List.length_pos_of_mem (mem_under.2 ⟨hw, List.take_prefix m w⟩)
  rcases uniq_cases ws w w.length 0 (by omega) with ⟨h1, h2⟩ | ⟨m, h1, h2, h3, h4, h5⟩
  · have e : uniqL ws w = w := h1
    rw [e]
    refine ⟨List.prefix_refl _, fun h => absurd rfl h, fun h => ?_⟩
    have := h2 (w.length - 1) (Nat.zero_le _) (by omega)
    have := one (w.length - 1)
    omega
  · have e : uniqL ws w = w.take m := h3
    have el : (w.take m).length = m := by rw [List.length_take]; omega
    rw [e]
    refine ⟨List.take_prefix m w, fun _ => h4, fun h => ?_⟩
    rw [el] at h ⊢
    rw [List.take_take, Nat.min_eq_left (by omega)]
    have := h5 (m - 1) (Nat.zero_le _) (by omega)
    have := one (m - 1)
    omega
end Go.Proofs.YtcplbbflfgckbaaGreatDoor.Pl

