/- Plain: TrieOfBook of the program and of the reference answer alike. -/
import Derived.Test.YtmecniejpoopfaaGreatDoorX18
import Derived.Test.YtmecniejpoopfaaGreatDoorBookLaw
import Derived.Test.YtmecniejpoopfaaGreatDoorMarkNodes
set_option linter.unusedVariables false
set_option linter.unusedSimpArgs false
namespace Go.Proofs.YtmecniejpoopfaaGreatDoor.Pure
open Go.RowKit Go.Proofs.YtmecniejpoopfaaGreatDoorW.PrintWords Go.Proofs.YtmecniejpoopfaaGreatDoorW.PrintLast Go.Proofs.YtmecniejpoopfaaGreatDoorW.PrintMore Go.Proofs.YtmecniejpoopfaaGreatDoor.X Go.Proofs.YtmecniejpoopfaaGreatDoor.Pl
theorem both (s a : ByteArray) (c : Int) (hs : s.size < 1000000000) (ha : a.size ≤ 1000000000) : ∃ r, Ev (fun k => spec_TrieOfBook.f k s a c) r ∧ Ev (fun k => impl_TrieOfBook.f k s a c) r ∧ r.1.length ≤ 481 := by
  unfold spec_TrieOfBook.f impl_TrieOfBook.f spec_l12Trie.f
  have h1 := l12Good_ev s a c hs ha
  have h2 := isBook_ev s a c hs
  cases hb : bookB s a c with
  | true =>
    rw [hb] at h1 h2
    unfold bookB at hb
    rw [decide_eq_true_eq] at hb
    obtain ⟨W, ok, w1, w2, w3⟩ := l12Words_ev s a c (by have := hb.1.size; omega)
    rw [decide_eq_true hb.1] at w2
    subst w2
    obtain rfl := w3 rfl
    have hok : ∀ w ∈ wordsS s, okW w := fun w hw => (hb.1.2.1 w hw).2
    have hof := l2Of_ev (wordsS s) (by have := hb.1.1; omega) (fun w hw => by have := (hok w hw).1; omega)
    have ht := bookTrie_ev s a c hs
    rw [if_pos hb.1] at ht
    refine ⟨(trie (wordsS s), true), Ev.bind h1 ?_, Ev.bind h2 ?_, (trie_bound hok hb.1.1).2⟩
    · exact ev_pos rfl (Ev.bind (Ev.bind w1 (Ev.bind hof (ev_eq rfl))) (ev_eq rfl))
    · exact ev_pos rfl (Ev.bind ht (ev_eq rfl))
  | false =>
    rw [hb] at h1 h2
    exact ⟨([], false), Ev.bind h1 (ev_neg (by decide) (ev_eq rfl)), Ev.bind h2 (ev_neg (by decide) (ev_eq rfl)), Nat.zero_le _⟩
theorem FnExactTrieOfBook : ∀ (a0_0 : ByteArray) (a0_1 : ByteArray) (a0_2 : Int), a0_0.size ≤ 140737488351232 → a0_1.size ≤ 140737488351232 → (Lit.int .i64 a0_2).wf = true → ∃ k, laws_FnExactTrieOfBook.f k a0_0 a0_1 a0_2 = some true := by
  intro s a c hs ha _
  unfold laws_FnExactTrieOfBook.f
  refine Ev.rounds (ev_sizeB hs ha fun hsz => ?_)
  obtain ⟨⟨t, ok⟩, h1, h2, h3⟩ := both s a c (by omega) (by omega)
  have hl : t.length ≤ 481 := h3
  have hT : laws_toBook.f s a c = some (s, a, c) := rfl
  have hE := eqTrie_ev t t (by omega)
  rw [decide_eq_true rfl] at hE
  obtain ⟨ys, hm, hh⟩ := mark_held t (by omega)
  rw [hT]
  refine ev_some (Ev.bind h1 (ev_some (Ev.bind h2 (Ev.bind hE ?_))))
  simp only [bne_self_eq_false]
  refine ev_pos trivial (Ev.step (fun k => by unfold laws_FnExactTrieOfBook.j0; rfl) (ev_neg (by decide) (Ev.bind hm (Ev.bind hh ?_))))
  refine ev_neg (by omega) (ev_pos rfl ?_)
  rw [hT]
  refine ev_some (Ev.bind h2 (Ev.bind hE ?_))
  simp only [bne_self_eq_false]
  refine ev_pos trivial (Ev.step (fun k => by unfold laws_FnExactTrieOfBook.j1; rfl) (ev_neg (by decide) (Ev.bind hh ?_)))
  exact ev_neg (by omega) (ev_pos rfl (ev_eq rfl))
end Go.Proofs.YtmecniejpoopfaaGreatDoor.Pure
