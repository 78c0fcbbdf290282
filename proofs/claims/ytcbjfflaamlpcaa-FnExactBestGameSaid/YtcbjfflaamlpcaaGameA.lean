/- Plain: the game's nodes: fatal ones, open ones; the game that is set up. -/
import Derived.Test.YtcbjfflaamlpcaaX8
import Derived.Test.YtcbjfflaamlpcaaX16
import Derived.Test.YtcbjfflaamlpcaaTrieE
set_option linter.unusedVariables false
set_option linter.unusedSimpArgs false
namespace Go.Proofs.Ytcbjfflaamlpcaa.Pl
open Go.RowKit Go.Proofs.YtcbjfflaamlpcaaW.PrintWords Go.Proofs.YtcbjfflaamlpcaaW.PrintLast Go.Proofs.YtcbjfflaamlpcaaW.PrintMore Go.Proofs.Ytcbjfflaamlpcaa.X

/-- The parent of a node. -/
def par (t : List ND) (i : Nat) : Int := (t.getD i zND).f1
theorem getD_nd {t : List ND} {i : Nat} (h : i < t.length) : t.getD i zND = t[i] := by
  rw [List.getD_eq_getElem?_getD, List.getElem?_eq_getElem h]; rfl
theorem rd_nd' {t : List ND} {i : Nat} (h : i < t.length) : rd_T67 t (i : Int) = t.getD i zND := by rw [rd_nd h, getD_nd h]
/-- What is known of a trie that a game is played on. -/
structure GOk (t : List ND) (P : List Wd) : Prop extends TOk t P where
  root : par t 0 = -1
  nod : P.Nodup
theorem IsT.gok {t : List ND} (h : IsT t) : ∃ P, GOk t P := by
  obtain ⟨ws, _, h2, h3, rfl⟩ := h
  refine ⟨prefs ws, ⟨prefP_trie h2 h3, fun p hp => (prefs_okW h2 hp).1⟩, ?_, (prefs_SS ws).nodup⟩
  obtain ⟨l, hl⟩ := prefs_head ws
  unfold par trie
  rw [hl]
  rfl
section
variable {t : List ND} {P : List Wd} (h : GOk t P)
include h
theorem GOk.one : 1 ≤ t.length := (prefP_spec h.pre).1
theorem GOk.len : t.length ≤ 481 := (prefP_spec h.pre).2.1
theorem GOk.plen : P.length = t.length := (prefP_spec h.pre).2.2.1
theorem GOk.par_lt {i : Nat} (hi : i < t.length) (h0 : 0 < i) : 0 ≤ par t i ∧ par t i < (i : Int) := by
  have := (prefP_spec h.pre).2.2.2.2 i h0 hi
  unfold par
  rw [getD_nd hi]
  exact ⟨this.1, this.2.1⟩
theorem GOk.par_lt' {i : Nat} (hi : i < t.length) : -1 ≤ par t i ∧ par t i < (i : Int) := by
  by_cases h0 : 0 < i
  · have := h.par_lt hi h0; omega
  · obtain rfl : i = 0 := by omega
    rw [h.root]; omega
theorem GOk.short' {i : Nat} (hi : i < t.length) : (P.getD i []).length ≤ 12 := by
  refine h.short _ ?_
  rw [List.getD_eq_getElem?_getD, List.getElem?_eq_getElem (by rw [h.plen]; exact hi)]
  exact List.getElem_mem _
end
/-- Who makes a fatal node loses. -/
def fatal (t : List ND) (P : List Wd) (n : Int) (i : Nat) : Bool := (t.getD i zND).f2 && decide (((P.getD i []).length : Int) ≥ n)
theorem l11Fatal_ev {t : List ND} {P : List Wd} (h : GOk t P) (n : Int) {i : Nat} (hi : i < t.length) : Ev (fun k => spec_l11Fatal.f k t i n) (fatal t P n i) := by
  unfold spec_l11Fatal.f fatal
  refine ev_pos (by omega) (ev_pos (by omega) ?_)
  rw [rd_nd' hi]
  cases (t.getD i zND).f2 with
  | true =>
    refine ev_pos rfl (Ev.bind (l2Prefix_ok h.toTOk i hi) (ev_eq ?_))
    rw [wb_size, Bool.true_and]
  | false => exact ev_neg (by decide) (ev_eq rfl)
theorem isFatal_eq {t : List ND} {P : List Wd} (h : GOk t P) (n : Int) {i : Nat} (hi : i < t.length) : impl_game_isFatal.f t n (P.map wb) i = some (fatal t P n i) := by
  unfold impl_game_isFatal.f fatal
  rw [if_pos (by omega), if_pos (by omega), rd_nd' hi]
  cases (t.getD i zND).f2 with
  | true =>
    rw [if_pos rfl, List.length_map, h.plen, if_pos (by omega), getD_wb P i (by rw [h.plen]; exact hi), wb_size, Bool.true_and]
  | false => rw [if_neg (by decide)]; rfl
/-! ### the game that is set up -/
theorem l11Good_ev (t : List ND) (ht : t.length ≤ 2000000) (node n : Int) : Ev (fun k => spec_l11Good.f k t node n) (isT t && decide (0 ≤ node ∧ node < (t.length : Int)) && decide (1 ≤ n ∧ n ≤ 6)) := by
  unfold spec_l11Good.f
  refine Ev.bind (l2Good_ev t ht node) ?_
  cases isT t && decide (0 ≤ node ∧ node < (t.length : Int)) with
  | true => rw [l1In_eq]; exact ev_pos rfl (ev_some (ev_eq (by rw [Bool.true_and])))
  | false => exact ev_neg (by decide) (ev_eq rfl)
def GdN (t : List ND) (node n : Int) : Prop := isT t = true ∧ (0 ≤ node ∧ node < (t.length : Int)) ∧ 1 ≤ n ∧ n ≤ 6
theorem l11Good_yes {t : List ND} {node n : Int} (ht : t.length ≤ 2000000) (h : GdN t node n) : Ev (fun k => spec_l11Good.f k t node n) true := by
  have := l11Good_ev t ht node n
  rw [h.1, decide_eq_true h.2.1, decide_eq_true h.2.2] at this
  exact this
theorem l11Good_no {t : List ND} {node n : Int} (ht : t.length ≤ 2000000) (h : ¬ GdN t node n) : Ev (fun k => spec_l11Good.f k t node n) false := by
  have := l11Good_ev t ht node n
  rw [show (isT t && decide (0 ≤ node ∧ node < (t.length : Int)) && decide (1 ≤ n ∧ n ≤ 6)) = false from by
    rw [Bool.eq_false_iff]; intro hc
    rw [Bool.and_eq_true, Bool.and_eq_true, decide_eq_true_eq, decide_eq_true_eq] at hc
    exact h ⟨hc.1.1, hc.1.2, hc.2⟩] at this
  exact this
/-- A good node is one of a trie, with all that is known of it. -/
theorem GdN.get {t : List ND} {node n : Int} (h : GdN t node n) : ∃ P, GOk t P ∧ isT t = true ∧ (1 ≤ n ∧ n ≤ 6) ∧ ∃ i : Nat, node = i ∧ i < t.length := by
  obtain ⟨P, hP⟩ := ((isT_iff t).1 h.1).gok
  obtain ⟨_, ⟨_, _⟩, _⟩ := h
  exact ⟨P, hP, ‹_›, ‹_›, node.toNat, by omega, by omega⟩
theorem newGame_no {t : List ND} (ht : t.length ≤ 2000000) {n : Int} (h : ¬ (isT t = true ∧ 1 ≤ n ∧ n ≤ 6)) : Ev (fun k => impl_newGame.f k t n) (false, 0, []) := by
  unfold impl_newGame.f
  refine Ev.bind (isTrie_ev t ht) ?_
  by_cases hT : isT t = true
  · rw [hT, in_eq]
    exact ev_pos rfl (ev_some (ev_neg (by rw [decide_eq_true_eq]; exact fun hn => h ⟨hT, hn⟩) (ev_eq rfl)))
  · exact ev_neg hT (ev_eq rfl)
theorem newGame_yes {t : List ND} {P : List Wd} (h : GOk t P) (hT : isT t = true) {n : Int} (hn : 1 ≤ n ∧ n ≤ 6) : Ev (fun k => impl_newGame.f k t n) (true, n, P.map wb) := by
  have hl := h.len
  unfold impl_newGame.f
  refine Ev.bind (isTrie_ev t (by omega)) ?_
  rw [hT, in_eq]
  refine ev_pos rfl (ev_some (ev_pos (decide_eq_true hn) ?_))
  refine Ev.bind (prefixes_ev t (by omega)) ?_
  rw [h.pre]
  exact ev_eq rfl
end Go.Proofs.Ytcbjfflaamlpcaa.Pl
