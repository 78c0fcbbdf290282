/- Plain: the draws of words and of tries answer. -/
import Derived.Test.YtcplbbflfgckbaaGreatDoorX5
import Derived.Test.YtcplbbflfgckbaaGreatDoorX7
import Derived.Test.YtcplbbflfgckbaaGreatDoorX9
import Derived.Test.YtcplbbflfgckbaaGreatDoorX0
import Derived.Test.YtcplbbflfgckbaaGreatDoorX2
import Derived.Test.YtcplbbflfgckbaaGreatDoorX3
import Derived.Test.YtcplbbflfgckbaaGreatDoorX4
import Derived.Test.YtcplbbflfgckbaaGreatDoorX6
import Derived.Test.YtcplbbflfgckbaaGreatDoorX8
import Derived.Test.YtcplbbflfgckbaaGreatDoorX10
import Derived.Test.YtcplbbflfgckbaaGreatDoorX15
import Derived.Test.YtcplbbflfgckbaaGreatDoorX17
import Derived.Test.YtcplbbflfgckbaaGreatDoorX1
import Derived.Test.YtcplbbflfgckbaaGreatDoorX11
import Derived.Test.YtcplbbflfgckbaaGreatDoorX12
import Derived.Test.YtcplbbflfgckbaaGreatDoorX14
import Derived.Test.YtcplbbflfgckbaaGreatDoorDr
import Derived.Test.YtcplbbflfgckbaaGreatDoorTrieC
set_option linter.unusedVariables false
set_option linter.unusedSimpArgs false
namespace Go.Proofs.YtcplbbflfgckbaaGreatDoor.Pl
open Go.RowKit Go.Proofs.YtcplbbflfgckbaaGreatDoorW.PrintWords Go.Proofs.YtcplbbflfgckbaaGreatDoorW.PrintLast Go.Proofs.YtcplbbflfgckbaaGreatDoorW.PrintMore Go.Proofs.YtcplbbflfgckbaaGreatDoor.X

theorem At.zero : At 0 0 := ⟨by omega, by omega⟩
theorem word_dr {l : List Int} (hl : isCodeB l) {n : Nat} {a s : Int} (h : At n a) (hn : n ≤ 900000) : Dr (fun k => spec_l1Cur_word.f k l a s) (n + 40) (fun w => w.size ≤ 25) := by
  unfold spec_l1Cur_word.f
  refine Dr.bind (among_dr hl h (by omega) _ (by decide)) fun c a1 s1 g1 hc => ?_
  have hc2 : 0 ≤ c ∧ c ≤ 12 := by
    simp only [List.mem_cons, List.not_mem_nil, or_false] at hc
    omega
  obtain ⟨m, rfl⟩ : ∃ m : Nat, c = m := ⟨c.toNat, by omega⟩
  have hm : m ≤ 12 := by omega
  clear hc hc2
  dsimp only
  have key : ∀ (m : Nat) (x : ByteArray) (p : Nat) (a s : Int), At p a → p + 2 * m ≤ 1000000 → x.size + m ≤ 12 → Dr (fun k => spec_l1Cur_word.l0 k x (m : Int) l a s) (p + 2 * m + 4) (fun w => w.size ≤ 25) := by
    intro m
    induction m with
    | zero =>
      intro x p a s g hp hx
      refine Dr.step (fun k => by unfold spec_l1Cur_word.l0; rfl) (Dr.neg (by omega) ?_)
      refine Dr.bind (one_dr hl g (by omega) 50) fun b a2 s2 g2 _ => ?_
      dsimp only
      refine Dr.ite (fun _ => ?_) (fun _ => (Dr.ret g2 (by omega)).le (by omega) (fun _ h => h))
      refine Dr.bind (of_dr hl g2 (by omega) _ (by decide)) fun y a3 s3 g3 hy => ?_
      have hy2 := small_mem' (m := 13) hy (by decide)
      dsimp only
      refine Dr.pos (by omega) ((Dr.ret g3 (by rw [ByteArray.size_append]; omega)).le (by omega) (fun _ h => h))
    | succ m ih =>
      intro x p a s g hp hx
      refine Dr.step (fun k => by unfold spec_l1Cur_word.l0; rfl) (Dr.pos (by omega) ?_)
      refine Dr.bind (of_dr hl g (by omega) _ (by decide)) fun y a3 s3 g3 hy => ?_
      have hy2 := small_mem' (m := 1) hy (by decide)
      have hdec : wrap64 (((m + 1 : Nat) : Int) - 1) = (m : Int) := by rw [w64 (by omega) (by omega)]; omega
      dsimp only
      rw [hdec]
      refine Dr.pos (by omega) ((ih (x ++ y) (p + 2) a3 s3 g3 (by omega) (by rw [ByteArray.size_append]; omega)).le (by omega) (fun _ h => h))
  exact (key m _ _ a1 s1 g1 (by omega) (by show (⟨#[]⟩ : ByteArray).size + m ≤ 12; show 0 + m ≤ 12; omega)).le (by omega) (fun _ h => h)
theorem words_dr {l : List Int} (hl : isCodeB l) {n : Nat} {a s : Int} (h : At n a) (hn : n ≤ 800000) : Dr (fun k => spec_l1Cur_words.f k l a s) (n + 1000) (fun ws => ws.length ≤ 60 ∧ ∀ w ∈ ws, w.size ≤ 25) := by
  unfold spec_l1Cur_words.f
  refine Dr.bind (among_dr hl h (by omega) _ (by decide)) fun c a1 s1 g1 hc => ?_
  have hc2 : 0 ≤ c ∧ c ≤ 12 := by
    simp only [List.mem_cons, List.not_mem_nil, or_false] at hc
    omega
  obtain ⟨m, rfl⟩ : ∃ m : Nat, c = m := ⟨c.toNat, by omega⟩
  have hm : m ≤ 12 := by omega
  clear hc hc2
  dsimp only
  have snoc : ∀ {ws : List ByteArray} {w : ByteArray}, (∀ x ∈ ws, x.size ≤ 25) → w.size ≤ 25 → ∀ x ∈ ws ++ [w], x.size ≤ 25 := fun h1 h2 x hx => by
    rcases List.mem_append.1 hx with h | h
    · exact h1 x h
    · rw [List.mem_singleton.1 h]; exact h2
  -- the many
  have many : ∀ (i : Nat) (ws : List ByteArray) (p : Nat) (a s : Int), i ≤ 41 → At p a → ws.length ≤ 60 - i → (∀ w ∈ ws, w.size ≤ 25) → Dr (fun k => spec_l1Cur_words.l1 k ws ((41 - i : Nat) : Int) l a s) p (fun ws => ws.length ≤ 60 ∧ ∀ w ∈ ws, w.size ≤ 25) := by
    intro i
    induction i with
    | zero =>
      intro ws p a s hi g h1 h2
      exact Dr.step (fun k => by unfold spec_l1Cur_words.l1; rfl) (Dr.neg (by omega) (Dr.ret g ⟨by omega, h2⟩))
    | succ i ih =>
      intro ws p a s hi g h1 h2
      have hw : wrap64 (((41 - (i + 1) : Nat) : Int) + 1) = ((41 - i : Nat) : Int) := by rw [w64 (by omega) (by omega)]; omega
      refine Dr.step (fun k => by unfold spec_l1Cur_words.l1; rfl) (Dr.pos (by omega) (Dr.pos (by omega) ?_))
      rw [hw]
      exact ih _ p a s (by omega) g (by rw [List.length_append]; simp only [List.length_cons, List.length_nil]; omega) (snoc h2 (by show (2 : Nat) ≤ 25; omega))
  -- behind one
  have key : ∀ (m : Nat) (ws : List ByteArray) (p : Nat) (a s : Int), At p a → p + 60 * m ≤ 900000 → ws.length + m ≤ 12 → (∀ w ∈ ws, w.size ≤ 25) → Dr (fun k => spec_l1Cur_words.l0 k ws (m : Int) l a s) (p + 60 * m + 4) (fun ws => ws.length ≤ 60 ∧ ∀ w ∈ ws, w.size ≤ 25) := by
    intro m
    induction m with
    | zero =>
      intro ws p a s g hp h1 h2
      refine Dr.step (fun k => by unfold spec_l1Cur_words.l0; rfl) (Dr.neg (by omega) ?_)
      refine Dr.bind (one_dr hl g (by omega) 40) fun b a2 s2 g2 _ => ?_
      dsimp only
      refine Dr.ite (fun _ => ?_) (fun _ => (Dr.ret g2 ⟨by omega, h2⟩).le (by omega) (fun _ h => h))
      exact (many 41 ws _ a2 s2 (by omega) g2 (by omega) h2).le (by omega) (fun _ h => h)
    | succ m ih =>
      intro ws p a s g hp h1 h2
      have hdec : wrap64 (((m + 1 : Nat) : Int) - 1) = (m : Int) := by rw [w64 (by omega) (by omega)]; omega
      have next : ∀ (w : ByteArray) (q : Nat) (a s : Int), w.size ≤ 25 → At q a → q ≤ p + 56 → Dr (fun k => spec_l1Cur_words.l0 k (ws ++ [w]) (wrap64 (((m + 1 : Nat) : Int) - 1)) l a s) (p + 60 * (m + 1) + 4) (fun ws => ws.length ≤ 60 ∧ ∀ w ∈ ws, w.size ≤ 25) := by
        intro w q a s hw hq hqp
        rw [hdec]
        exact (ih (ws ++ [w]) q a s hq (by omega) (by rw [List.length_append]; simp only [List.length_cons, List.length_nil]; omega) (snoc h2 hw)).le (by omega) (fun _ h => h)
      refine Dr.step (fun k => by unfold spec_l1Cur_words.l0; rfl) (Dr.pos (by omega) ?_)
      refine Dr.bind (word_dr hl g (by omega)) fun w a2 s2 g2 hw => ?_
      dsimp only
      have j2 : ∀ (w : ByteArray) (b : Bool) (q : Nat) (a s : Int), w.size ≤ 25 → (b = true → w.size < 12) → At q a → q ≤ p + 50 → Dr (fun k => spec_l1Cur_words.j2 k ws ((m + 1 : Nat) : Int) w b l a s) (p + 60 * (m + 1) + 4) (fun ws => ws.length ≤ 60 ∧ ∀ w ∈ ws, w.size ≤ 25) := by
        intro w b q a s hw hb hq hqp
        refine Dr.step (fun k => by unfold spec_l1Cur_words.j2; rfl) (Dr.ite (fun hb2 => ?_) (fun _ => Dr.ite (fun h0 => ?_) (fun _ => ?_)))
        · refine Dr.bind (of_dr hl hq (by omega) _ (by decide)) fun y a3 s3 g3 hy => ?_
          have hy2 := small_mem' (m := 1) hy (by decide)
          have := hb hb2
          dsimp only
          exact Dr.pos (by omega) (Dr.pos (by omega) (next _ _ a3 s3 (by rw [ByteArray.size_append]; omega) g3 (by omega)))
        · rw [w64 (by omega) (by omega)]
          exact Dr.pos (by omega) (Dr.pos (by omega) (Dr.pos (by omega) (next _ _ a s (by rw [ByteArray.size_extract]; omega) hq (by omega))))
        · exact Dr.pos (by omega) (next _ _ a s hw hq (by omega))
      have j1 : ∀ (b : Bool) (q : Nat) (a s : Int), (b = true → 0 < ws.length) → At q a → q ≤ p + 44 → Dr (fun k => spec_l1Cur_words.j1 k ws ((m + 1 : Nat) : Int) w b l a s) (p + 60 * (m + 1) + 4) (fun ws => ws.length ≤ 60 ∧ ∀ w ∈ ws, w.size ≤ 25) := by
        intro b q a s hb hq hqp
        refine Dr.step (fun k => by unfold spec_l1Cur_words.j1; rfl) (Dr.ite (fun hb2 => ?_) (fun _ => ?_))
        · refine Dr.bind (pick_dr hl hq (by omega) _) fun i a3 s3 g3 hi => ?_
          have := hb hb2
          have hi2 := hi.2 (by omega)
          dsimp only
          refine Dr.pos hi.1 (Dr.pos hi2 ?_)
          obtain ⟨i, rfl⟩ : ∃ j : Nat, i = j := ⟨i.toNat, by omega⟩
          have hm : rdOf ByteArray.empty ws (i : Int) ∈ ws := getD_mem (by omega) _
          refine Dr.bind (one_dr hl g3 (by omega) 2) fun c a4 s4 g4 _ => ?_
          dsimp only
          refine Dr.ite (fun _ => ?_) (fun _ => ?_)
          · exact j2 _ _ _ a4 s4 (h2 _ hm) (fun hd => by have := of_decide_eq_true hd; omega) g4 (by omega)
          · exact j2 _ _ _ a4 s4 (h2 _ hm) (fun hd => absurd hd (by decide)) g4 (by omega)
        · exact Dr.pos (by omega) (next _ _ a s hw hq (by omega))
      refine Dr.ite (fun h0 => ?_) (fun _ => j1 _ _ a2 s2 (fun hd => absurd hd (by decide)) g2 (by omega))
      refine Dr.bind (one_dr hl g2 (by omega) 3) fun c a3 s3 g3 _ => ?_
      dsimp only
      exact j1 _ _ a3 s3 (fun _ => by omega) g3 (by omega)
  exact (key m _ _ a1 s1 g1 (by omega) (by simp; omega) (by simp)).le (by omega) (fun _ h => h)
theorem trie_dr {l : List Int} (hl : isCodeB l) {n : Nat} {a s : Int} (h : At n a) (hn : n ≤ 700000) : Dr (fun k => spec_l1Cur_trie.f k l a s) (n + 1010) (fun t => t.length ≤ 482) := by
  unfold spec_l1Cur_trie.f
  refine Dr.bind (words_dr hl h (by omega)) fun ws a1 s1 g1 hw => ?_
  dsimp only
  refine Dr.ev (l2Set_ev ws (by omega) (fun x hx => by have := hw.2 x hx; omega)) ?_
  dsimp only
  unfold refSet
  by_cases hok : ∀ w ∈ ws.map bw, okW w
  case neg => rw [if_neg hok]; exact Dr.neg (by decide) ((Dr.ret g1 (by simp)).le (by omega) (fun _ h => h))
  rw [if_pos hok]
  refine Dr.ite (fun h40 => ?_) (fun _ => (Dr.ret g1 (by simp)).le (by omega) (fun _ h => h))
  have h40' : (setW (ws.map bw)).length ≤ 40 := of_decide_eq_true h40
  have hok2 : ∀ w ∈ setW (ws.map bw), okW w := fun w hx => hok w ((mem_setW _ w).1 hx)
  dsimp only
  refine Dr.ev (l2Of_ev _ (by omega) (fun w hx => by have := (hok2 w hx).1; omega)) ?_
  obtain ⟨b1, b2⟩ := trie_bound hok2 h40'
  generalize trie (setW (ws.map bw)) = t at b1 b2
  refine Dr.bind (pick_dr hl g1 (by omega) 60) fun c a2 s2 g2 hc => ?_
  dsimp only
  have fin : ∀ (i : Int) (x : ND) (q : Nat) (a s : Int), 0 ≤ i ∧ (1 ≤ (t.length : Int) → i < (t.length : Int)) → At q a → q ≤ n + 1010 → Dr (fun _ => if 0 ≤ i then (if i < (t.length : Int) then some (t.set i.toNat x, a, s) else none) else none) (n + 1010) (fun t => t.length ≤ 482) := by
    intro i x q a s hi hq hqn
    exact Dr.pos hi.1 (Dr.pos (hi.2 (by omega)) ((Dr.ret hq (by simp; omega)).le hqn (fun _ h => h)))
  refine Dr.ite (fun _ => ?_) (fun _ => Dr.ite (fun _ => ?_) (fun _ => Dr.ite (fun _ => ?_) (fun _ => Dr.ite (fun _ => ?_) (fun _ => ?_))))
  · refine Dr.bind (pick_dr hl g2 (by omega) _) fun i a3 s3 g3 hi => ?_
    refine Dr.bind (one_dr hl g3 (by omega) 2) fun b a4 s4 g4 _ => ?_
    exact fin i _ _ a4 s4 hi g4 (by omega)
  · refine Dr.bind (pick_dr hl g2 (by omega) _) fun i a3 s3 g3 hi => ?_
    refine Dr.bind (among_dr hl g3 (by omega) _ (by simp)) fun b a4 s4 g4 _ => ?_
    exact fin i _ _ a4 s4 hi g4 (by omega)
  · refine Dr.bind (pick_dr hl g2 (by omega) _) fun i a3 s3 g3 hi => ?_
    refine Dr.bind (among_dr hl g3 (by omega) _ (by simp)) fun b a4 s4 g4 _ => ?_
    exact fin i _ _ a4 s4 hi g4 (by omega)
  · refine Dr.bind (one_dr hl g2 (by omega) 2) fun b a4 s4 g4 _ => ?_
    exact Dr.pos (by omega) ((Dr.ret g4 (by rw [List.length_append]; simp only [List.length_cons, List.length_nil]; omega)).le (by omega) (fun _ h => h))
  · exact (Dr.ret g2 (by omega)).le (by omega) (fun _ h => h)
theorem wordOf_dr {l : List Int} (hl : isCodeB l) {n : Nat} {a s : Int} (h : At n a) (hn : n ≤ 700000) (t : List ND) (ht : t.length ≤ 482) : Dr (fun k => spec_l1Cur_wordOf.f k l a s t) (n + 60) (fun w => w.size ≤ 25) := by
  unfold spec_l1Cur_wordOf.f
  have j1 : ∀ (w : ByteArray) (b : Bool) (q : Nat) (a s : Int), w.size ≤ 13 → At q a → q ≤ n + 10 → Dr (fun k => spec_l1Cur_wordOf.j1 k w b l a s) (n + 60) (fun w => w.size ≤ 25) := by
    intro w b q a s hw hq hqn
    refine Dr.step (fun k => by unfold spec_l1Cur_wordOf.j1; rfl) (Dr.ite (fun _ => ?_) (fun _ => (Dr.ret hq (by omega)).le (by omega) (fun _ h => h)))
    refine Dr.bind (of_dr hl hq (by omega) _ (by decide)) fun y a3 s3 g3 hy => ?_
    have hy2 := small_mem' (m := 1) hy (by decide)
    exact Dr.pos (by dsimp only; omega) ((Dr.ret g3 (by dsimp only; rw [ByteArray.size_append]; omega)).le (by omega) (fun _ h => h))
  have j0 : ∀ (b : Bool) (q : Nat) (a s : Int), (b = true → 0 < t.length) → At q a → q ≤ n + 4 → Dr (fun k => spec_l1Cur_wordOf.j0 k (t.length : Int) b l a s t) (n + 60) (fun w => w.size ≤ 25) := by
    intro b q a s hb hq hqn
    refine Dr.step (fun k => by unfold spec_l1Cur_wordOf.j0; rfl) (Dr.ite (fun hb2 => ?_) (fun _ => ?_))
    · have := hb hb2
      refine Dr.bind (pick_dr hl hq (by omega) _) fun i a3 s3 g3 hi => ?_
      have hi2 := hi.2 (by omega)
      obtain ⟨i, rfl⟩ : ∃ j : Nat, i = j := ⟨i.toNat, by omega⟩
      obtain ⟨r, hr1, hr2, _⟩ := l2Prefix_ev t (by omega) i (by omega)
      refine Dr.ev hr1 ?_
      refine Dr.bind (one_dr hl g3 (by omega) 4) fun c a4 s4 g4 _ => ?_
      exact Dr.ite (fun _ => j1 _ _ _ a4 s4 hr2 g4 (by omega)) (fun _ => j1 _ _ _ a4 s4 hr2 g4 (by omega))
    · refine Dr.bind (word_dr hl hq (by omega)) fun w a3 s3 g3 hw => ?_
      dsimp only at hw ⊢
      exact (Dr.ret (Q := fun w : ByteArray => w.size ≤ 25) g3 hw).le (by omega) (fun _ h => h)
  refine Dr.ite (fun h0 => ?_) (fun _ => j0 _ _ a s (fun hd => absurd hd (by decide)) h (by omega))
  refine Dr.bind (one_dr hl h (by omega) 3) fun c a3 s3 g3 _ => ?_
  refine Dr.ite (fun _ => j0 _ _ a3 s3 (fun hd => absurd hd (by decide)) g3 (by omega)) (fun _ => ?_)
  exact Dr.ev (l2Trie_ev t (by omega)) (j0 _ _ a3 s3 (fun _ => by omega) g3 (by omega))
end Go.Proofs.YtcplbbflfgckbaaGreatDoor.Pl

