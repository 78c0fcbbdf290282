/- Plain: the kids of a node. -/
import Derived.Test.YtcbjfflaamlpcaaX8
import Derived.Test.YtcbjfflaamlpcaaX16
import Derived.Test.YtcbjfflaamlpcaaGameA
set_option linter.unusedVariables false
set_option linter.unusedSimpArgs false
namespace Go.Proofs.Ytcbjfflaamlpcaa.Pl
open Go.RowKit Go.Proofs.YtcbjfflaamlpcaaW.PrintWords Go.Proofs.YtcbjfflaamlpcaaW.PrintLast Go.Proofs.YtcbjfflaamlpcaaW.PrintMore Go.Proofs.Ytcbjfflaamlpcaa.X

/-- The kids of a node, from a place on. -/
def kidsFrom (t : List ND) (i : Nat) (j : Nat) : List Nat := (List.range' j (t.length - j)).filter fun c => par t c = (i : Int)
def kids (t : List ND) (i : Nat) : List Nat := kidsFrom t i 0
theorem kidsFrom_step (t : List ND) (i j : Nat) (h : j < t.length) : kidsFrom t i j = if par t j = (i : Int) then j :: kidsFrom t i (j + 1) else kidsFrom t i (j + 1) := by
  unfold kidsFrom
  rw [show t.length - j = (t.length - (j + 1)) + 1 by omega, List.range'_succ, List.filter_cons]
  by_cases hc : par t j = (i : Int)
  · rw [if_pos (by simpa using hc), if_pos hc]
  · rw [if_neg (by simpa using hc), if_neg hc]
theorem kidsFrom_end (t : List ND) (i j : Nat) (h : t.length ≤ j) : kidsFrom t i j = [] := by
  unfold kidsFrom
  rw [show t.length - j = 0 by omega]; rfl
theorem kidsFrom_skip {t : List ND} {P : List Wd} (h : GOk t P) (i : Nat) : ∀ j, j ≤ i + 1 → kidsFrom t i 0 = kidsFrom t i j
  | 0, _ => rfl
  | j + 1, hj => by
    rw [kidsFrom_skip h i j (by omega)]
    by_cases hl : j < t.length
    · rw [kidsFrom_step t i j hl, if_neg (by have := h.par_lt' hl; omega)]
    · rw [kidsFrom_end t i j (by omega), kidsFrom_end t i (j + 1) (by omega)]
theorem mem_kids {t : List ND} {i c : Nat} : c ∈ kids t i ↔ c < t.length ∧ par t c = (i : Int) := by
  unfold kids kidsFrom
  simp only [List.mem_filter, List.mem_range'_1, decide_eq_true_eq]
  omega
theorem kids_gt {t : List ND} {P : List Wd} (h : GOk t P) {i c : Nat} (hc : c ∈ kids t i) : i < c ∧ c < t.length := by
  obtain ⟨h1, h2⟩ := mem_kids.1 hc
  have := h.par_lt' h1
  omega
theorem kids_length (t : List ND) (i : Nat) : (kids t i).length ≤ t.length := by
  unfold kids kidsFrom
  exact Nat.le_trans (List.length_filter_le _ _) (by simp)
def ints (l : List Nat) : List Int := l.map fun c : Nat => (c : Int)
theorem ints_length (l : List Nat) : (ints l).length = l.length := List.length_map _
theorem rd_ints {l : List Nat} {i : Nat} (h : i < l.length) : rd (ints l) (i : Int) = (l.getD i 0 : Nat) := by
  rw [rd_nat]; unfold ints
  rw [List.getD_eq_getElem?_getD, List.getElem?_map, List.getElem?_eq_getElem h, List.getD_eq_getElem?_getD, List.getElem?_eq_getElem h]; rfl
theorem l2Kids_ev {t : List ND} {P : List Wd} (h : GOk t P) {i : Nat} (hi : i < t.length) : Ev (fun k => spec_l2Kids.f k t i) (ints (kids t i)) := by
  have hl := h.len
  unfold spec_l2Kids.f
  rw [inc (by omega)]
  have key : ∀ d j (acc : List Int), t.length - j = d → j ≤ t.length → acc.length ≤ j → Ev (fun k => spec_l2Kids.l0 k i acc (j : Nat) t) (acc ++ ints (kidsFrom t i j)) := by
    intro d
    induction d with
    | zero =>
      intro j acc hd hj ha
      refine Ev.step (fun k => by unfold spec_l2Kids.l0; rfl) (ev_neg (by omega) (ev_eq ?_))
      rw [kidsFrom_end t i j (by omega)]; simp [ints]
    | succ d ih =>
      intro j acc hd hj ha
      have hj' : j < t.length := by omega
      refine Ev.step (fun k => by unfold spec_l2Kids.l0; rfl) (ev_pos (by omega) (ev_pos (by omega) ?_))
      rw [rd_nd' hj', inc (by omega), kidsFrom_step t i j hj']
      by_cases hc : par t j = (i : Int)
      · rw [if_pos hc]
        refine ev_pos hc (ev_pos (by omega) ?_)
        have := ih (j + 1) (acc ++ [(j : Int)]) (by omega) (by omega) (by rw [List.length_append]; simp; omega)
        rw [List.append_assoc] at this
        exact this
      · rw [if_neg hc]
        exact ev_neg hc (ih (j + 1) acc (by omega) (by omega) (by omega))
  have := key _ (i + 1) [] rfl (by omega) (by simp)
  rw [← kidsFrom_skip h i (i + 1) (Nat.le_refl _)] at this
  exact this
theorem kids_ev {t : List ND} (hl : t.length ≤ 2000000) (i : Nat) : Ev (fun k => impl_Trie_kids.f k t i) (ints (kids t i)) := by
  unfold impl_Trie_kids.f
  have key : ∀ d j (acc : List Int), t.length - j = d → j ≤ t.length → acc.length ≤ j → Ev (fun k => impl_Trie_kids.l0 k i acc t (t.length : Int) (j : Nat)) (acc ++ ints (kidsFrom t i j)) := by
    intro d
    induction d with
    | zero =>
      intro j acc hd hj ha
      refine Ev.step (fun k => by unfold impl_Trie_kids.l0; rfl) (ev_neg (by omega) (ev_eq ?_))
      rw [kidsFrom_end t i j (by omega)]; simp [ints]
    | succ d ih =>
      intro j acc hd hj ha
      have hj' : j < t.length := by omega
      refine Ev.step (fun k => by unfold impl_Trie_kids.l0; rfl) (ev_pos (by omega) (ev_pos (by omega) (ev_pos (by omega) ?_)))
      rw [rd_nd' hj', inc (by omega), kidsFrom_step t i j hj']
      by_cases hc : par t j = (i : Int)
      · rw [if_pos hc]
        refine ev_pos hc (ev_pos (by omega) ?_)
        have := ih (j + 1) (acc ++ [(j : Int)]) (by omega) (by omega) (by rw [List.length_append]; simp; omega)
        rw [List.append_assoc] at this
        exact this
      · rw [if_neg hc]
        exact ev_neg hc (ih (j + 1) acc (by omega) (by omega) (by omega))
  have := key _ 0 [] rfl (by omega) (by simp)
  exact this
end Go.Proofs.Ytcbjfflaamlpcaa.Pl
