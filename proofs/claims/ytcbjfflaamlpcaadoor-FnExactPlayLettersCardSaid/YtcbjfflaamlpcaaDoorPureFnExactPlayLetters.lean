/- Plain: PlayLetters of the program and of the reference answer alike. -/
import Derived.Test.YtcbjfflaamlpcaaDoorX23
import Derived.Test.YtcbjfflaamlpcaaDoorGameLaw
import Derived.Test.YtcbjfflaamlpcaaDoorGameB
import Derived.Test.YtcbjfflaamlpcaaDoorTrim
set_option linter.unusedVariables false
set_option linter.unusedSimpArgs false
namespace Go.Proofs.YtcbjfflaamlpcaaDoor.Pure
open Go.RowKit Go.Proofs.YtcbjfflaamlpcaaDoorW.PrintWords Go.Proofs.YtcbjfflaamlpcaaDoorW.PrintLast Go.Proofs.YtcbjfflaamlpcaaDoorW.PrintMore Go.Proofs.YtcbjfflaamlpcaaDoor.X Go.Proofs.YtcbjfflaamlpcaaDoor.Pl
theorem letter_iff (x : UInt8) : ([97, 98, 99, 100, 101, 102, 103, 104, 105, 106, 107, 108, 109, 110, 111, 112, 113, 114, 115, 116, 117, 118, 119, 120, 121, 122] : List UInt8).contains x = true ↔ 97 ≤ x.toNat ∧ x.toNat ≤ 122 := by
  simp only [List.contains_iff_mem, List.mem_cons, List.not_mem_nil, or_false, ← UInt8.toNat_inj, UInt8.reduceToNat]
  omega
theorem areLetters_eq (s : ByteArray) (hs : s.size ≤ 140737488351232) : impl_areLetters.f s = some (decide (∀ b ∈ bw s, 97 ≤ b.toNat ∧ b.toNat ≤ 122)) := by
  unfold impl_areLetters.f strings_Trim.f
  rw [if_pos ⟨by omega, by decide, by decide⟩, Option.bind_some]
  congr 1
  rw [Bool.eq_iff_iff, beq_iff_eq, toList_bytes, decide_eq_true_eq]
  have : (⟨(Lib.trimS s.data.toList (⟨#[97, 98, 99, 100, 101, 102, 103, 104, 105, 106, 107, 108, 109, 110, 111, 112, 113, 114, 115, 116, 117, 118, 119, 120, 121, 122]⟩ : ByteArray).data.toList).toArray⟩ : ByteArray).data.toList = Lib.trimS s.data.toList [97, 98, 99, 100, 101, 102, 103, 104, 105, 106, 107, 108, 109, 110, 111, 112, 113, 114, 115, 116, 117, 118, 119, 120, 121, 122] := by simp
  rw [this, trim_nil]
  exact forall_congr' fun x => forall_congr' fun _ => letter_iff x
theorem isWord_eq (s : ByteArray) (hs : s.size ≤ 140737488351232) : impl_isWord.f s = some (decide (okW (bw s))) := by
  unfold impl_isWord.f
  rw [areLetters_eq s hs]
  have hsz := bw_size s
  by_cases h : (s.size : Int) ≤ 12
  · rw [if_pos h, Option.bind_some]; congr 1; rw [decide_eq_decide]
    exact ⟨fun h2 => ⟨by omega, h2⟩, fun h2 => h2.2⟩
  · rw [if_neg h]; congr 1; symm; rw [decide_eq_false_iff_not]; exact fun h2 => h (by have := h2.1; omega)
/-- The kid with a letter, or -1. -/
def asKid : Option Nat → Int
  | some c => (c : Int)
  | none => -1
def kidAt (t : List ND) (i : Nat) (x : Int) : Int := asKid ((kids t i).find? fun c => (t.getD c zND).f0 = x)
theorem l2Kid_ev {t : List ND} {P : List Wd} (h : GOk t P) {i : Nat} (hi : i < t.length) (x : Int) : Ev (fun k => spec_l2Kid.f k t i x) (kidAt t i x) := by
  have hl := h.len
  unfold spec_l2Kid.f kidAt kids
  rw [inc (by omega), kidsFrom_skip h i (i + 1) (Nat.le_refl _)]
  have key : ∀ d j, t.length - j = d → j ≤ t.length → Ev (fun k => spec_l2Kid.l0 k i x (j : Nat) t) (asKid ((kidsFrom t i j).find? fun c => (t.getD c zND).f0 = x)) := by
    intro d
    induction d with
    | zero =>
      intro j hd hj
      refine Ev.step (fun k => by unfold spec_l2Kid.l0; rfl) (ev_neg (by omega) (ev_eq ?_))
      rw [kidsFrom_end t i j (by omega)]; rfl
    | succ d ih =>
      intro j hd hj
      have hj' : j < t.length := by omega
      refine Ev.step (fun k => by unfold spec_l2Kid.l0; rfl) (ev_pos (by omega) (ev_pos (by omega) ?_))
      rw [rd_nd' hj', inc (by omega), kidsFrom_step t i j hj']
      by_cases hc : par t j = (i : Int)
      · rw [if_pos hc, List.find?_cons]
        refine ev_pos hc ?_
        by_cases hx : (t.getD j zND).f0 = x
        · rw [decide_eq_true hx]; exact ev_pos hx (ev_eq rfl)
        · rw [decide_eq_false hx]; exact ev_neg hx (ih (j + 1) (by omega) (by omega))
      · rw [if_neg hc]
        exact ev_neg hc (ih (j + 1) (by omega) (by omega))
  exact key _ (i + 1) rfl (by omega)
theorem kid_uniq {t : List ND} {P : List Wd} (h : GOk t P) {i c c' : Nat} (hc : c ∈ kids t i) (hc' : c' ∈ kids t i) (e : (t.getD c zND).f0 = (t.getD c' zND).f0) : c = c' := by
  have g := kids_gt h hc
  have g' := kids_gt h hc'
  have p := (mem_kids.1 hc).2
  have p' := (mem_kids.1 hc').2
  have s := (prefP_spec h.pre).2.2.2.2 c (by omega) g.2
  have s' := (prefP_spec h.pre).2.2.2.2 c' (by omega) g'.2
  unfold par at p p'
  rw [getD_nd g.2] at p e
  rw [getD_nd g'.2] at p' e
  have hP : P.getD c [] = P.getD c' [] := by rw [s.2.2.2.2, s'.2.2.2.2, p, p', e]
  have hl := h.plen
  have hcl : c < P.length := by rw [hl]; exact g.2
  have hcl' : c' < P.length := by rw [hl]; exact g'.2
  rw [List.getD_eq_getElem?_getD, List.getD_eq_getElem?_getD, List.getElem?_eq_getElem hcl, List.getElem?_eq_getElem hcl', Option.getD_some, Option.getD_some] at hP
  rcases Nat.lt_trichotomy c c' with hlt | he | hlt
  · exact absurd hP ((List.pairwise_iff_getElem.1 h.nod) c c' hcl hcl' hlt)
  · exact he
  · exact absurd hP.symm ((List.pairwise_iff_getElem.1 h.nod) c' c hcl' hcl hlt)
theorem last_find {p : Nat → Bool} : ∀ (l : List Nat) (b : Int), (∀ c ∈ l, ∀ c' ∈ l, p c = true → p c' = true → c = c') → l.foldl (fun b c => if p c = true then (c : Int) else b) b = match l.find? p with | some c => (c : Int) | none => b
  | [], b, _ => rfl
  | x :: l, b, h => by
    rw [List.foldl_cons, List.find?_cons]
    have ht := fun b' => last_find l b' (fun c hc c' hc' => h c (List.mem_cons_of_mem _ hc) c' (List.mem_cons_of_mem _ hc'))
    cases hx : p x with
    | true =>
      rw [if_pos rfl, ht]
      cases hf : l.find? p with
      | none => rfl
      | some c => exact congrArg Int.ofNat (h c (List.mem_cons_of_mem _ (List.mem_of_find?_eq_some hf)) x List.mem_cons_self (List.find?_some hf) hx)
    | false => rw [if_neg (by decide), ht]
theorem kidAt_last {t : List ND} {P : List Wd} (h : GOk t P) (i : Nat) (x : Int) : (kids t i).foldl (fun b c => if (t.getD c zND).f0 = x then (c : Int) else b) (-1) = kidAt t i x := by
  have := last_find (p := fun c => decide ((t.getD c zND).f0 = x)) (kids t i) (-1) (fun c hc c' hc' h1 h2 => kid_uniq h hc hc' (by rw [decide_eq_true_eq] at h1 h2; rw [h1, h2]))
  simp only [decide_eq_true_eq] at this
  rw [this]
  unfold kidAt asKid
  rfl
theorem kidAt_range {t : List ND} {P : List Wd} (h : GOk t P) (i : Nat) (x : Int) : kidAt t i x = -1 ∨ ∃ c : Nat, kidAt t i x = c ∧ c < t.length := by
  unfold kidAt
  cases hf : (kids t i).find? fun c => (t.getD c zND).f0 = x with
  | none => exact .inl rfl
  | some c => exact .inr ⟨c, rfl, (kids_gt h (List.mem_of_find?_eq_some hf)).2⟩
theorem loop_both {t : List ND} {P : List Wd} (h : GOk t P) (n : Int) (s : ByteArray) (hs : okW (bw s)) : ∀ m i j, s.size - j = m → j ≤ s.size → i < t.length →
    ∃ r, Ev (fun k => spec_PlayLetters.l0 k n s i j t) r ∧ Ev (fun k => impl_PlayLetters.l0 k s i j t t n (P.map wb)) r := by
  have hl := h.len
  have hsz : s.size ≤ 12 := by have := hs.1; rw [bw_size] at this; exact this
  intro m
  induction m with
  | zero =>
    intro i j hm hj hi
    obtain rfl : j = s.size := by omega
    by_cases hk : kids t i = []
    · refine ⟨((i : Int), (s.size : Int), Int.tmod s.size 2, true), ?_, ?_⟩
      · refine Ev.step (fun k => by unfold spec_PlayLetters.l0; rfl) (ev_neg (by omega) (Ev.bind (l2Kids_ev h hi) ?_))
        rw [hk]
        exact ev_pos rfl (ev_eq (by rw [Int.tmod_eq_emod_of_nonneg (by omega)]))
      · refine Ev.step (fun k => by unfold impl_PlayLetters.l0; rfl) (Ev.bind (kids_ev (by omega) i) ?_)
        rw [hk]
        exact ev_pos rfl (ev_eq rfl)
    · have hk0 : (kids t i).length ≠ 0 := fun e => hk (List.length_eq_zero_iff.1 e)
      refine ⟨((i : Int), (s.size : Int), -1, true), ?_, ?_⟩
      · refine Ev.step (fun k => by unfold spec_PlayLetters.l0; rfl) (ev_neg (by omega) (Ev.bind (l2Kids_ev h hi) ?_))
        exact ev_neg (by rw [ints_length]; omega) (ev_eq rfl)
      · refine Ev.step (fun k => by unfold impl_PlayLetters.l0; rfl) (Ev.bind (kids_ev (by omega) i) ?_)
        exact ev_neg (by rw [ints_length]; omega) (ev_pos rfl (ev_eq rfl))
  | succ m ih =>
    intro i j hm hj hi
    have hj' : j < s.size := by omega
    by_cases hk : kids t i = []
    · refine ⟨((i : Int), (j : Int), Int.tmod j 2, true), ?_, ?_⟩
      · refine Ev.step (fun k => by unfold spec_PlayLetters.l0; rfl) (ev_pos (by omega) (Ev.bind (l2Kids_ev h hi) ?_))
        rw [hk]
        exact ev_pos rfl (ev_eq rfl)
      · refine Ev.step (fun k => by unfold impl_PlayLetters.l0; rfl) (Ev.bind (kids_ev (by omega) i) ?_)
        rw [hk]
        exact ev_pos rfl (ev_eq rfl)
    have hk0 : (kids t i).length ≠ 0 := fun e => hk (List.length_eq_zero_iff.1 e)
    have hkl := kids_length t i
    have hb := hs.2 _ (List.getElem_mem (show j < (bw s).length by rw [bw_size]; exact hj'))
    have eb := bt_bw hj'
    generalize hbb : bt s (j : Int) = b at eb
    have hbr : 97 ≤ b ∧ b ≤ 122 := by omega
    -- what follows the search, on either side
    have impl_after : ∀ R, Ev (fun k => if kidAt t i (b - 97) < 0 then (some ((i : Int), (j : Int), (-1 : Int), true)) else ((impl_game_isFatal.f t n (P.map wb) (kidAt t i (b - 97))).bind fun t454 => (if t454 = true then (some (kidAt t i (b - 97), wrap64 ((j : Int) + 1), Int.tmod j 2, true)) else (impl_PlayLetters.l0 k s (kidAt t i (b - 97)) (wrap64 ((j : Int) + 1)) t t n (P.map wb))))) R → Ev (fun k => impl_PlayLetters.l0 k s i j t t n (P.map wb)) R := by
      intro R hR
      refine Ev.step (fun k => by unfold impl_PlayLetters.l0; rfl) (Ev.bind (kids_ev (by omega) i) ?_)
      refine ev_neg (by rw [ints_length]; omega) (ev_neg (by omega) ?_)
      rw [← kidAt_last h i (b - 97)] at hR
      have key : ∀ mm q (z : Int), (kids t i).length - q = mm → q ≤ (kids t i).length → (kids t i).foldl (fun b' c => if (t.getD c zND).f0 = b - 97 then (c : Int) else b') (-1) = ((kids t i).drop q).foldl (fun b' c => if (t.getD c zND).f0 = b - 97 then (c : Int) else b') z → Ev (fun k => impl_PlayLetters.l1 k s i j z (ints (kids t i)) ((ints (kids t i)).length : Int) (q : Nat) t t n (P.map wb)) R := by
        intro mm
        induction mm with
        | zero =>
          intro q z hmm hq hz
          rw [List.drop_of_length_le (by omega), List.foldl_nil] at hz
          rw [hz] at hR
          exact Ev.step (fun k => by unfold impl_PlayLetters.l1; rfl) (ev_neg (by rw [ints_length]; omega) hR)
        | succ mm ihh =>
          intro q z hmm hq hz
          have hq' : q < (kids t i).length := by omega
          rw [drop_cons hq' 0, List.foldl_cons] at hz
          generalize hc : (kids t i).getD q 0 = c at hz
          have hmem : c ∈ kids t i := by rw [← hc]; exact getD_mem hq' 0
          have hg := kids_gt h hmem
          refine Ev.step (fun k => by unfold impl_PlayLetters.l1; rfl) (ev_pos (by rw [ints_length]; omega) (ev_pos (by omega) (ev_pos (by rw [ints_length]; omega) ?_)))
          rw [rd_ints hq', hc, inc (by omega), rd_nd' hg.2, hbb]
          refine ev_pos (by omega) (ev_pos (by omega) (ev_pos (by omega) (ev_pos (by omega) ?_)))
          rw [show (b - 97) % 256 = b - 97 by omega]
          by_cases hx : (t.getD c zND).f0 = b - 97
          · rw [if_pos hx] at hz; exact ev_pos hx (ihh (q + 1) _ (by omega) (by omega) hz)
          · rw [if_neg hx] at hz; exact ev_neg hx (ihh (q + 1) _ (by omega) (by omega) hz)
      exact key _ 0 (-1) rfl (Nat.zero_le _) (by rw [List.drop_zero])
    have spec_after : ∀ R, Ev (fun k => if kidAt t i (b - 97) < 0 then (some ((i : Int), (j : Int), (-1 : Int), true)) else ((spec_l11Fatal.f k t (kidAt t i (b - 97)) n).bind fun t315 => (if t315 = true then (some (kidAt t i (b - 97), wrap64 ((j : Int) + 1), Int.tmod j 2, true)) else (spec_PlayLetters.l0 k n s (kidAt t i (b - 97)) (wrap64 ((j : Int) + 1)) t)))) R → Ev (fun k => spec_PlayLetters.l0 k n s i j t) R := by
      intro R hR
      refine Ev.step (fun k => by unfold spec_PlayLetters.l0; rfl) (ev_pos (by omega) (Ev.bind (l2Kids_ev h hi) ?_))
      refine ev_neg (by rw [ints_length]; omega) (ev_pos (by omega) ?_)
      rw [hbb, w64 (x := b) (by omega) (by omega), w64 (x := b - 97) (by omega) (by omega)]
      exact Ev.bind (l2Kid_ev h hi (b - 97)) hR
    rcases kidAt_range h i (b - 97) with e | ⟨c, e, hc⟩
    · rw [e] at impl_after spec_after
      exact ⟨_, spec_after _ (ev_pos (by decide) (ev_eq rfl)), impl_after _ (ev_pos (by decide) (ev_eq rfl))⟩
    · rw [e, inc (by omega)] at impl_after spec_after
      rw [isFatal_eq h n hc] at impl_after
      have hf := l11Fatal_ev h n hc
      cases hfc : Pl.fatal t P n c with
      | true =>
        rw [hfc] at hf impl_after
        exact ⟨_, spec_after _ (ev_neg (by omega) (Ev.bind hf (ev_pos rfl (ev_eq rfl)))), impl_after _ (ev_neg (by omega) (ev_some (ev_pos rfl (ev_eq rfl))))⟩
      | false =>
        rw [hfc] at hf impl_after
        obtain ⟨r, h1, h2⟩ := ih c (j + 1) (by omega) (by omega) hc
        exact ⟨r, spec_after _ (ev_neg (by omega) (Ev.bind hf (ev_neg (by decide) h1))), impl_after _ (ev_neg (by omega) (ev_some (ev_neg (by decide) h2)))⟩
theorem both (t : List ND) (ht : t.length ≤ 2000000) (n : Int) (s : ByteArray) (hs : s.size ≤ 140737488351232) : ∃ r, Ev (fun k => spec_PlayLetters.f k t n s) r ∧ Ev (fun k => impl_PlayLetters.f k t n s) r := by
  unfold spec_PlayLetters.f impl_PlayLetters.f
  have hw := l2Word_ev s (by omega)
  rw [isWord_eq s hs]
  by_cases hg : GdN t 0 n
  · obtain ⟨P, hP, hT, hn, i, hi0, hi⟩ := hg.get
    by_cases ho : okW (bw s)
    · rw [decide_eq_true ho] at hw ⊢
      obtain ⟨r, h1, h2⟩ := loop_both hP n s ho _ 0 0 rfl (Nat.zero_le _) (by have := hP.one; omega)
      exact ⟨r, Ev.bind (l11Good_yes ht hg) (ev_pos rfl (Ev.bind hw (Ev.step (fun k => by unfold spec_PlayLetters.j0; rfl) (ev_neg (by decide) h1)))), Ev.bind (newGame_yes hP hT hn) (ev_pos rfl (ev_some (ev_pos rfl h2)))⟩
    · rw [decide_eq_false ho] at hw ⊢
      exact ⟨(0, 0, 0, false), Ev.bind (l11Good_yes ht hg) (ev_pos rfl (Ev.bind hw (Ev.step (fun k => by unfold spec_PlayLetters.j0; rfl) (ev_pos rfl (ev_eq rfl))))), Ev.bind (newGame_yes hP hT hn) (ev_pos rfl (ev_some (ev_neg (by decide) (ev_eq rfl))))⟩
  · refine ⟨(0, 0, 0, false), Ev.bind (l11Good_no ht hg) (ev_neg (by decide) (Ev.step (fun k => by unfold spec_PlayLetters.j0; rfl) (ev_pos rfl (ev_eq rfl)))), Ev.bind (newGame_no ht ?_) (ev_neg (by decide) (ev_eq rfl))⟩
    rintro ⟨h1, h2⟩
    obtain ⟨P, hP⟩ := ((isT_iff t).1 h1).gok
    have := hP.one
    exact hg ⟨h1, by omega, h2⟩
theorem FnExactPlayLetters : ∀ (l0_0 : List (S61)) (a1 : Int) (a2 : ByteArray), (l0_0.length * 24 ≤ 140737488351232 ∧ ∀ y ∈ l0_0, ((Lit.int .i64 y.f0).wf = true ∧ (Lit.int .i64 y.f1).wf = true ∧ True)) → (Lit.int .i64 a1).wf = true → a2.size ≤ 140737488351232 → ∃ k, laws_FnExactPlayLetters.f k l0_0 a1 a2 = some true := by
  intro l n s hl _ hs
  unfold laws_FnExactPlayLetters.f
  refine Ev.rounds (r := true) (ev_ite (fun _ => ev_eq rfl) (fun _ => ?_))
  refine ev_size hl.1 fun hlen => ?_
  obtain ⟨⟨b, c, d, ok⟩, h1, h2⟩ := both (l.map cv) (by rw [List.length_map]; omega) n s hs
  have hT := toTrie_ev l (by omega)
  refine Ev.bind hT (Ev.bind h1 (Ev.bind hT (Ev.bind h2 ?_)))
  simp only [bne_self_eq_false]
  refine ev_pos trivial (ev_pos trivial (ev_pos trivial (Ev.step (fun k => by unfold laws_FnExactPlayLetters.j0; rfl) (ev_neg (by decide) (Ev.bind hT (Ev.bind (eqTrie_ev (l.map cv) (l.map cv) (by rw [List.length_map]; omega)) ?_))))))
  rw [decide_eq_true rfl]
  exact ev_pos rfl (ev_eq rfl)
end Go.Proofs.YtcbjfflaamlpcaaDoor.Pure
