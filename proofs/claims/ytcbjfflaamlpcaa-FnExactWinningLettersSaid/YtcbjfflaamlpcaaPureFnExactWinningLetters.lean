/- Plain: WinningLetters of the program and of the reference answer alike. -/
import Derived.Test.YtcbjfflaamlpcaaX35
import Derived.Test.YtcbjfflaamlpcaaGameLaw
import Derived.Test.YtcbjfflaamlpcaaGameC
import Derived.Test.YtcbjfflaamlpcaaGameG
set_option linter.unusedVariables false
set_option linter.unusedSimpArgs false
namespace Go.Proofs.Ytcbjfflaamlpcaa.Pure
open Go.RowKit Go.Proofs.YtcbjfflaamlpcaaW.PrintWords Go.Proofs.YtcbjfflaamlpcaaW.PrintLast Go.Proofs.YtcbjfflaamlpcaaW.PrintMore Go.Proofs.Ytcbjfflaamlpcaa.X Go.Proofs.Ytcbjfflaamlpcaa.Pl
def letter (t : List ND) (c : Nat) : ByteArray := strOfNums [(wrap64 (97 + (t.getD c zND).f0)) % 256]
theorem letter_size (t : List ND) (c : Nat) : (letter t c).size = 1 := rfl
def lettersF (t : List ND) (P : List Wd) (n : Int) (l : List Nat) (s : ByteArray) : ByteArray := l.foldl (fun s c => if (!Pl.fatal t P n c && !winsB t P n false c) = true then s ++ letter t c else s) s
theorem spec_loop {t : List ND} {P : List Wd} (h : GOk t P) (n : Int) (i : Nat) : ∀ m j (s : ByteArray), (kids t i).length - j = m → j ≤ (kids t i).length → s.size ≤ j → Ev (fun k => spec_WinningLetters.l0 k n s (ints (kids t i)) (j : Nat) t) (lettersF t P n ((kids t i).drop j) s, true) := by
  have hl := h.len
  have hkl := kids_length t i
  intro m
  induction m with
  | zero =>
    intro j s hm hj hs
    refine Ev.step (fun k => by unfold spec_WinningLetters.l0; rfl) (ev_neg (by rw [ints_length]; omega) (ev_eq ?_))
    rw [List.drop_of_length_le (by omega)]; rfl
  | succ m ih =>
    intro j s hm hj hs
    have hj' : j < (kids t i).length := by omega
    rw [drop_cons hj' 0]
    unfold lettersF
    rw [List.foldl_cons]
    generalize hc : (kids t i).getD j 0 = c
    have hmem : c ∈ kids t i := by rw [← hc]; exact getD_mem hj' 0
    have hg := kids_gt h hmem
    have hf := l11Fatal_ev h n hg.2
    have hw := l11Wins_ok h n false hg.2
    refine Ev.step (fun k => by unfold spec_WinningLetters.l0; rfl) (ev_pos (by rw [ints_length]; omega) (ev_pos (by omega) ?_))
    rw [rd_ints hj', hc, inc (by omega)]
    refine Ev.bind hf ?_
    cases Pl.fatal t P n c with
    | true =>
      refine ev_pos rfl ?_
      exact ih (j + 1) s (by omega) (by omega) (by omega)
    | false =>
      refine ev_neg (by decide) (Ev.bind hw ?_)
      cases winsB t P n false c with
      | true => exact ev_pos rfl (ih (j + 1) s (by omega) (by omega) (by omega))
      | false =>
        refine ev_neg (by decide) ?_
        have e : spec_l11Letter.f t (c : Int) = some (letter t c) := by
          unfold spec_l11Letter.f
          rw [if_pos (by omega), if_pos (by omega), rd_nd' hg.2]; rfl
        rw [e]
        refine ev_some (ev_pos (by rw [letter_size]; omega) ?_)
        exact ih (j + 1) (s ++ letter t c) (by omega) (by omega) (by rw [ByteArray.size_append, letter_size]; omega)
theorem impl_loop {t : List ND} {P : List Wd} (h : GOk t P) (n : Int) (i : Nat) : ∀ m j (s : ByteArray), (kids t i).length - j = m → j ≤ (kids t i).length → s.size ≤ j → Ev (fun k => impl_WinningLetters.l0 k s (ints (kids t i)) ((ints (kids t i)).length : Int) (j : Nat) t t n (P.map wb)) (lettersF t P n ((kids t i).drop j) s, true) := by
  have hl := h.len
  have hkl := kids_length t i
  intro m
  induction m with
  | zero =>
    intro j s hm hj hs
    refine Ev.step (fun k => by unfold impl_WinningLetters.l0; rfl) (ev_neg (by rw [ints_length]; omega) (ev_eq ?_))
    rw [List.drop_of_length_le (by omega)]; rfl
  | succ m ih =>
    intro j s hm hj hs
    have hj' : j < (kids t i).length := by omega
    rw [drop_cons hj' 0]
    unfold lettersF
    rw [List.foldl_cons]
    generalize hc : (kids t i).getD j 0 = c
    have hmem : c ∈ kids t i := by rw [← hc]; exact getD_mem hj' 0
    have hg := kids_gt h hmem
    refine Ev.step (fun k => by unfold impl_WinningLetters.l0; rfl) (ev_pos (by rw [ints_length]; omega) (ev_pos (by omega) (ev_pos (by rw [ints_length]; omega) ?_)))
    rw [rd_ints hj', hc, inc (by omega)]
    refine Ev.bind (isGood_ok h n hg.2) ?_
    cases !Pl.fatal t P n c && !winsB t P n false c with
    | false => exact ev_neg (by decide) (ih (j + 1) s (by omega) (by omega) (by omega))
    | true =>
      refine ev_pos rfl (ev_pos (by omega) (ev_pos (by omega) ?_))
      rw [rd_nd' hg.2, show impl_letter.f (t.getD c zND).f0 = some (letter t c) from rfl]
      refine ev_some (ev_pos (by rw [letter_size]; omega) ?_)
      exact ih (j + 1) (s ++ letter t c) (by omega) (by omega) (by rw [ByteArray.size_append, letter_size]; omega)
theorem both (t : List ND) (ht : t.length ≤ 2000000) (a n : Int) : ∃ r, Ev (fun k => spec_WinningLetters.f k t a n) r ∧ Ev (fun k => impl_WinningLetters.f k t a n) r := by
  unfold spec_WinningLetters.f impl_WinningLetters.f
  by_cases hg : GdN t a n
  · obtain ⟨P, hP, hT, hn, i, rfl, hi⟩ := hg.get
    have hat := gameAt_yes hP hT hn hi
    have hop := l11Open_ev hP n hi
    cases ho : opn t P n i with
    | true =>
      simp only [ho, if_true, reduceIte, Bool.false_eq_true] at hat hop
      refine ⟨(lettersF t P n (kids t i) ⟨#[]⟩, true), Ev.bind (l11Good_yes ht hg) (ev_pos rfl (Ev.bind hop (Ev.step (fun k => by unfold spec_WinningLetters.j0; rfl) (ev_neg (by decide) (Ev.bind (l2Kids_ev hP hi) ?_))))), Ev.bind hat (ev_pos rfl (Ev.bind (kids_ev ht i) ?_))⟩
      · exact spec_loop hP n i _ 0 _ rfl (Nat.zero_le _) (Nat.le_refl _)
      · exact impl_loop hP n i _ 0 _ rfl (Nat.zero_le _) (Nat.le_refl _)
    | false =>
      simp only [ho, if_true, reduceIte, Bool.false_eq_true] at hat hop
      exact ⟨(⟨#[]⟩, false), Ev.bind (l11Good_yes ht hg) (ev_pos rfl (Ev.bind hop (Ev.step (fun k => by unfold spec_WinningLetters.j0; rfl) (ev_pos rfl (ev_eq rfl))))), Ev.bind hat (ev_neg (by decide) (ev_eq rfl))⟩
  · exact ⟨(⟨#[]⟩, false), Ev.bind (l11Good_no ht hg) (ev_neg (by decide) (Ev.step (fun k => by unfold spec_WinningLetters.j0; rfl) (ev_pos rfl (ev_eq rfl)))), Ev.bind (gameAt_no ht hg) (ev_neg (by decide) (ev_eq rfl))⟩
theorem FnExactWinningLetters : ∀ (l0_0 : List (S80)) (a1 : Int) (a2 : Int), (l0_0.length * 24 ≤ 140737488351232 ∧ ∀ y ∈ l0_0, ((Lit.int .i64 y.f0).wf = true ∧ (Lit.int .i64 y.f1).wf = true ∧ True)) → (Lit.int .i64 a1).wf = true → (Lit.int .i64 a2).wf = true → ∃ k, laws_FnExactWinningLetters.f k l0_0 a1 a2 = some true := by
  intro l a n hl _ _
  unfold laws_FnExactWinningLetters.f
  refine Ev.rounds (ev_size hl.1 fun hlen => ?_)
  obtain ⟨⟨b, ok⟩, h1, h2⟩ := both (l.map cv) (by rw [List.length_map]; omega) a n
  have hT := toTrie_ev l (by omega)
  refine Ev.bind hT (Ev.bind h1 (Ev.bind hT (Ev.bind h2 ?_)))
  simp only [bne_self_eq_false]
  refine ev_pos trivial (Ev.step (fun k => by unfold laws_FnExactWinningLetters.j0; rfl) (ev_neg (by decide) (Ev.bind hT (Ev.bind (eqTrie_ev (l.map cv) (l.map cv) (by rw [List.length_map]; omega)) ?_))))
  rw [decide_eq_true rfl]
  exact ev_pos rfl (ev_eq rfl)
end Go.Proofs.Ytcbjfflaamlpcaa.Pure
