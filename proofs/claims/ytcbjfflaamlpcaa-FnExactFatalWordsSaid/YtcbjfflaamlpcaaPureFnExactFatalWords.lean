/- Plain: FatalWords of the program and of the reference answer alike. -/
import Derived.Test.YtcbjfflaamlpcaaX25
import Derived.Test.YtcbjfflaamlpcaaGameLaw
import Derived.Test.YtcbjfflaamlpcaaGameA
import Derived.Test.YtcbjfflaamlpcaaGlue
import Derived.Test.YtcbjfflaamlpcaaMarks
import Derived.Test.YtcbjfflaamlpcaaMarkNodes
set_option linter.unusedVariables false
set_option linter.unusedSimpArgs false
namespace Go.Proofs.Ytcbjfflaamlpcaa.Pure
open Go.RowKit Go.Proofs.YtcbjfflaamlpcaaW.PrintWords Go.Proofs.YtcbjfflaamlpcaaW.PrintLast Go.Proofs.YtcbjfflaamlpcaaW.PrintMore Go.Proofs.Ytcbjfflaamlpcaa.X Go.Proofs.Ytcbjfflaamlpcaa.Pl
def takeB (t : List ND) (P : List Wd) (n : Int) (c : Nat) : Bool := Pl.fatal t P n c && opn t P n (par t c).toNat
def wordsFrom (t : List ND) (P : List Wd) (n : Int) (j : Nat) : List ByteArray := ((List.range' j (t.length - j)).filter (takeB t P n)).map fun c => wb (P.getD c [])
theorem wordsFrom_step (t : List ND) (P : List Wd) (n : Int) (j : Nat) (h : j < t.length) : wordsFrom t P n j = if takeB t P n j = true then wb (P.getD j []) :: wordsFrom t P n (j + 1) else wordsFrom t P n (j + 1) := by
  unfold wordsFrom
  rw [show t.length - j = (t.length - (j + 1)) + 1 by omega, List.range'_succ, List.filter_cons]
  by_cases hc : takeB t P n j = true
  · rw [if_pos hc, if_pos hc]; rfl
  · rw [if_neg hc, if_neg hc]
theorem wordsFrom_end (t : List ND) (P : List Wd) (n : Int) (j : Nat) (h : t.length ≤ j) : wordsFrom t P n j = [] := by
  unfold wordsFrom
  rw [show t.length - j = 0 by omega]; rfl
theorem wordsFrom_length (t : List ND) (P : List Wd) (n : Int) (j : Nat) : (wordsFrom t P n j).length ≤ t.length := by
  unfold wordsFrom
  rw [List.length_map]
  exact Nat.le_trans (List.length_filter_le _ _) (by simp)
theorem spec_loop {t : List ND} {P : List Wd} (h : GOk t P) (n : Int) : ∀ m j (acc : List ByteArray), t.length - j = m → j ≤ t.length → 1 ≤ j → acc.length ≤ j → Ev (fun k => spec_FatalWords.l0 k n acc (j : Nat) t) (acc ++ wordsFrom t P n j, true) := by
  have hl := h.len
  intro m
  induction m with
  | zero =>
    intro j acc hm hj h1 ha
    refine Ev.step (fun k => by unfold spec_FatalWords.l0; rfl) (ev_neg (by omega) (ev_eq ?_))
    rw [wordsFrom_end t P n j (by omega), List.append_nil]
  | succ m ih =>
    intro j acc hm hj h1 ha
    have hj' : j < t.length := by omega
    have hp := h.par_lt hj' (by omega)
    have nxt := fun acc ha => ih (j + 1) acc (by omega) (by omega) (by omega) ha
    rw [wordsFrom_step t P n j hj']
    refine Ev.step (fun k => by unfold spec_FatalWords.l0; rfl) (ev_pos (by omega) (Ev.bind (l11Fatal_ev h n hj') ?_))
    rw [inc (by omega), rd_nd' hj']
    unfold takeB
    cases Pl.fatal t P n j with
    | false => rw [Bool.false_and, if_neg (by decide)]; exact ev_neg (by decide) (nxt acc (by omega))
    | true =>
      rw [Bool.true_and]
      have ho := l11Open_ev h n (i := (par t j).toNat) (by omega)
      rw [show (((par t j).toNat : Nat) : Int) = (t.getD j zND).f1 by show _ = par t j; omega] at ho
      refine ev_pos rfl (ev_pos (by omega) (Ev.bind ho ?_))
      cases opn t P n (par t j).toNat with
      | false => rw [if_neg (by decide)]; exact ev_neg (by decide) (nxt acc (by omega))
      | true =>
        rw [if_pos rfl]
        refine ev_pos rfl (Ev.bind (l2Prefix_ok h.toTOk j hj') (ev_pos (by omega) ?_))
        have := nxt (acc ++ [wb (P.getD j [])]) (by rw [List.length_append]; simp; omega)
        rw [List.append_assoc] at this
        exact this
theorem impl_loop {t : List ND} {P : List Wd} (h : GOk t P) (n : Int) (hn : 1 ≤ n) : ∀ m j (acc : List ByteArray), t.length - j = m → j ≤ t.length → acc.length ≤ j → Ev (fun k => impl_FatalWords.l0 k acc t (t.length : Int) (j : Nat) t n (P.map wb)) (acc ++ wordsFrom t P n j, true) := by
  have hl := h.len
  intro m
  induction m with
  | zero =>
    intro j acc hm hj ha
    refine Ev.step (fun k => by unfold impl_FatalWords.l0; rfl) (ev_neg (by omega) (ev_eq ?_))
    rw [wordsFrom_end t P n j (by omega), List.append_nil]
  | succ m ih =>
    intro j acc hm hj ha
    have hj' : j < t.length := by omega
    have nxt := fun acc ha => ih (j + 1) acc (by omega) (by omega) ha
    rw [wordsFrom_step t P n j hj']
    refine Ev.step (fun k => by unfold impl_FatalWords.l0; rfl) (ev_pos (by omega) (ev_pos (by omega) (ev_pos (by omega) ?_)))
    rw [inc (by omega), rd_nd' hj', isFatal_eq h n hj']
    refine ev_some ?_
    unfold takeB
    cases hf : Pl.fatal t P n j with
    | false => rw [Bool.false_and, if_neg (by decide)]; exact ev_neg (by decide) (nxt acc (by omega))
    | true =>
      have h0 : 0 < j := by
        rcases Nat.eq_zero_or_pos j with rfl | h0
        · have hz := (prefP_spec h.pre).2.2.2.1
          unfold Pl.fatal at hf
          rw [hz, Bool.and_eq_true, decide_eq_true_eq] at hf
          have := hf.2
          simp at this
          omega
        · exact h0
      have hp := h.par_lt hj' h0
      rw [Bool.true_and]
      have ho := isOpen_ev h n (i := (par t j).toNat) (by omega)
      rw [show (((par t j).toNat : Nat) : Int) = (t.getD j zND).f1 by show _ = par t j; omega] at ho
      refine ev_pos rfl (Ev.bind ho ?_)
      cases opn t P n (par t j).toNat with
      | false => rw [if_neg (by decide)]; exact ev_neg (by decide) (nxt acc (by omega))
      | true =>
        rw [if_pos rfl, getD_wb P j (by rw [h.plen]; exact hj')]
        refine ev_pos rfl (ev_pos (by rw [List.length_map, h.plen]; omega) (ev_pos (by omega) ?_))
        have := nxt (acc ++ [wb (P.getD j [])]) (by rw [List.length_append]; simp; omega)
        rw [List.append_assoc] at this
        exact this
theorem both (t : List ND) (ht : t.length ≤ 2000000) (n : Int) : ∃ r, Ev (fun k => spec_FatalWords.f k t n) r ∧ Ev (fun k => impl_FatalWords.f k t n) r ∧ r.1.length ≤ 1000 := by
  unfold spec_FatalWords.f impl_FatalWords.f
  by_cases hg : GdN t 0 n
  · obtain ⟨P, hP, hT, hn, i, hi0, hi⟩ := hg.get
    have hl := hP.len
    have h1 := spec_loop hP n _ 1 [] rfl hP.one (Nat.le_refl _) (by simp)
    have h2 := impl_loop hP n hn.1 _ 0 [] rfl (Nat.zero_le _) (by simp)
    have e : wordsFrom t P n 0 = wordsFrom t P n 1 := by
      rw [wordsFrom_step t P n 0 (by have := hP.one; omega), if_neg]
      intro hc
      unfold takeB Pl.fatal at hc
      rw [(prefP_spec hP.pre).2.2.2.1, Bool.and_eq_true, Bool.and_eq_true, decide_eq_true_eq] at hc
      have := hc.1.2
      simp at this
      omega
    rw [e] at h2
    exact ⟨([] ++ wordsFrom t P n 1, true), ev_some (Ev.bind (l11Good_yes ht hg) (ev_pos rfl h1)), Ev.bind (newGame_yes hP hT hn) (ev_pos rfl h2), by have := wordsFrom_length t P n 1; simp; omega⟩
  · refine ⟨([], false), ev_some (Ev.bind (l11Good_no ht hg) (ev_neg (by decide) (ev_eq rfl))), Ev.bind (newGame_no ht ?_) (ev_neg (by decide) (ev_eq rfl)), by simp⟩
    rintro ⟨h1, h2⟩
    obtain ⟨P, hP⟩ := ((isT_iff t).1 h1).gok
    have := hP.one
    exact hg ⟨h1, by omega, h2⟩
theorem FnExactFatalWords : ∀ (l0_0 : List (S80)) (a1 : Int), (l0_0.length * 24 ≤ 140737488351232 ∧ ∀ y ∈ l0_0, ((Lit.int .i64 y.f0).wf = true ∧ (Lit.int .i64 y.f1).wf = true ∧ True)) → (Lit.int .i64 a1).wf = true → ∃ k, laws_FnExactFatalWords.f k l0_0 a1 = some true := by
  intro l n hl _
  unfold laws_FnExactFatalWords.f
  refine Ev.rounds (ev_size hl.1 fun hlen => ?_)
  obtain ⟨⟨b, ok⟩, h1, h2, h3⟩ := both (l.map cv) (by rw [List.length_map]; omega) n
  have hb : b.length ≤ 1000 := h3
  have hT := toTrie_ev l (by omega)
  have hS : Ev (fun k => laws_eqStringS.f k b b) true := by
    have := eqStringS_ev b b (by omega)
    simpa using this
  obtain ⟨m, ys, hm, hm0⟩ := mark_nodes (l.map cv) (by rw [List.length_map]; omega)
  obtain ⟨zs, hz1, hz2⟩ := mark_texts b (by omega)
  refine Ev.bind hT (Ev.bind h1 (Ev.bind hT (Ev.bind h2 (Ev.bind hS ?_))))
  simp only [bne_self_eq_false]
  refine ev_pos trivial (Ev.step (fun k => by unfold laws_FnExactFatalWords.j0; rfl) (ev_neg (by decide) (Ev.bind hT (Ev.bind (eqTrie_ev (l.map cv) (l.map cv) (by rw [List.length_map]; omega)) ?_))))
  rw [decide_eq_true rfl]
  refine ev_pos rfl (Ev.bind hm ?_)
  refine ev_neg (by simp only; omega) (Ev.bind hS ?_)
  refine ev_pos rfl ?_
  simp only [bne_self_eq_false]
  refine Ev.step (fun k => by unfold laws_FnExactFatalWords.j1; rfl) (ev_neg (by decide) (Ev.bind hz1 (Ev.bind hz2 ?_)))
  refine ev_neg (by omega) (ev_pos rfl (Ev.bind hT (Ev.bind h2 (Ev.bind hS ?_))))
  refine ev_pos rfl ?_
  simp only [bne_self_eq_false]
  refine Ev.step (fun k => by unfold laws_FnExactFatalWords.j2; rfl) (ev_neg (by decide) (Ev.bind hz2 ?_))
  exact ev_neg (by omega) (ev_pos rfl (ev_eq rfl))
end Go.Proofs.Ytcbjfflaamlpcaa.Pure
