/- Plain: what is known of a valid trie: its nodes' parents, kids and prefixes. -/
import Derived.Test.YtcplbbflfgckbaaGreatDoorTrieB
set_option linter.unusedVariables false
set_option linter.unusedSimpArgs false
namespace Go.Proofs.YtcplbbflfgckbaaGreatDoor.Pl
open Go.RowKit Go.Proofs.YtcplbbflfgckbaaGreatDoorW.PrintWords Go.Proofs.YtcplbbflfgckbaaGreatDoorW.PrintLast Go.Proofs.YtcplbbflfgckbaaGreatDoorW.PrintMore Go.Proofs.YtcplbbflfgckbaaGreatDoor.X

/-- The parent of a node. -/
def par (t : List ND) (i : Nat) : Int := (t.getD i zND).f1
theorem getD_nd {t : List ND} {i : Nat} (h : i < t.length) : t.getD i zND = t[i] := by
  rw [List.getD_eq_getElem?_getD, List.getElem?_eq_getElem h]; rfl
theorem rd_nd' {t : List ND} {i : Nat} (h : i < t.length) : rd_T74 t (i : Int) = t.getD i zND := by rw [rd_nd h, getD_nd h]
/-- What is known of a trie that a game is played on. -/
structure GOk (t : List ND) (P : List Wd) : Prop extends TOk t P where
  root : par t 0 = -1
  nod : P.Nodup
theorem gok_trie {ws : List Wd} (h2 : ∀ w ∈ ws, okW w) (h3 : ws.length ≤ 40) : GOk (trie ws) (prefs ws) := by
  refine ⟨⟨prefP_trie h2 h3, fun p hp => (prefs_okW h2 hp).1⟩, ?_, (prefs_SS ws).nodup⟩
  obtain ⟨l, hl⟩ := prefs_head ws
  unfold par trie
  rw [hl]
  rfl
theorem IsT.gok {t : List ND} (h : IsT t) : ∃ P, GOk t P := by
  obtain ⟨ws, _, h2, h3, rfl⟩ := h
  exact ⟨prefs ws, gok_trie h2 h3⟩
section
variable {t : List ND} {P : List Wd} (h : GOk t P)
include h
theorem GOk.one : 1 ≤ t.length := (prefP_spec h.pre).1
theorem GOk.len : t.length ≤ 481 := (prefP_spec h.pre).2.1
theorem GOk.plen : P.length = t.length := (prefP_spec h.pre).2.2.1
theorem GOk.par_lt {i : Nat} (hi : i < t.length) (h0 : 0 < i) : 0 ≤ par t i ∧ par t i < (i : Int) := by
  have := (prefP_spec h.pre).2.2.2.2 i h0 hi
  unfold par
  rw [getD_nd hi]
  exact ⟨this.1, this.2.1⟩
theorem GOk.par_lt' {i : Nat} (hi : i < t.length) : -1 ≤ par t i ∧ par t i < (i : Int) := by
  by_cases h0 : 0 < i
  · have := h.par_lt hi h0; omega
  · obtain rfl : i = 0 := by omega
    rw [h.root]; omega
theorem GOk.short' {i : Nat} (hi : i < t.length) : (P.getD i []).length ≤ 12 := by
  refine h.short _ ?_
  rw [List.getD_eq_getElem?_getD, List.getElem?_eq_getElem (by rw [h.plen]; exact hi)]
  exact List.getElem_mem _
end
/-- The kids of a node, from a place on. -/
def kidsFrom (t : List ND) (i : Nat) (j : Nat) : List Nat := (List.range' j (t.length - j)).filter fun c => par t c = (i : Int)
def kids (t : List ND) (i : Nat) : List Nat := kidsFrom t i 0
theorem kidsFrom_step (t : List ND) (i j : Nat) (h : j < t.length) : kidsFrom t i j = if par t j = (i : Int) then j :: kidsFrom t i (j + 1) else kidsFrom t i (j + 1) := by
  unfold kidsFrom
  rw [show t.length - j = (t.length - (j + 1)) + 1 by omega, List.range'_succ, List.filter_cons]
  by_cases hc : par t j = (i : Int)
  · rw [if_pos (by simpa using hc), if_pos hc]
  · rw [if_neg (by simpa using hc), if_neg hc]
theorem kidsFrom_end (t : List ND) (i j : Nat) (h : t.length ≤ j) : kidsFrom t i j = [] := by
  unfold kidsFrom
  rw [show t.length - j = 0 by omega]; rfl
theorem kidsFrom_skip {t : List ND} {P : List Wd} (h : GOk t P) (i : Nat) : ∀ j, j ≤ i + 1 → kidsFrom t i 0 = kidsFrom t i j
  | 0, _ => rfl
  | j + 1, hj => by
    rw [kidsFrom_skip h i j (by omega)]
    by_cases hl : j < t.length
    · rw [kidsFrom_step t i j hl, if_neg (by have := h.par_lt' hl; omega)]
    · rw [kidsFrom_end t i j (by omega), kidsFrom_end t i (j + 1) (by omega)]
theorem mem_kids {t : List ND} {i c : Nat} : c ∈ kids t i ↔ c < t.length ∧ par t c = (i : Int) := by
  unfold kids kidsFrom
  simp only [List.mem_filter, List.mem_range'_1, decide_eq_true_eq]
  omega
theorem kids_gt {t : List ND} {P : List Wd} (h : GOk t P) {i c : Nat} (hc : c ∈ kids t i) : i < c ∧ c < t.length := by
  obtain ⟨h1, h2⟩ := mem_kids.1 hc
  have := h.par_lt' h1
  omega
theorem kids_length (t : List ND) (i : Nat) : (kids t i).length ≤ t.length := by
  unfold kids kidsFrom
  exact Nat.le_trans (List.length_filter_le _ _) (by simp)
def ints (l : List Nat) : List Int := l.map fun c : Nat => (c : Int)
theorem ints_length (l : List Nat) : (ints l).length = l.length := List.length_map _
theorem rd_ints {l : List Nat} {i : Nat} (h : i < l.length) : rd (ints l) (i : Int) = (l.getD i 0 : Nat) := by
  rw [rd_nat]; unfold ints
  rw [List.getD_eq_getElem?_getD, List.getElem?_map, List.getElem?_eq_getElem h, List.getD_eq_getElem?_getD, List.getElem?_eq_getElem h]; rfl
end Go.Proofs.YtcplbbflfgckbaaGreatDoor.Pl

