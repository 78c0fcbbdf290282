/- Plain: BestGame of the program and of the reference answer alike. -/
import Derived.Test.YtcbjfflaamlpcaaX17
import Derived.Test.YtcbjfflaamlpcaaGameLaw
import Derived.Test.YtcbjfflaamlpcaaGameC
set_option linter.unusedVariables false
set_option linter.unusedSimpArgs false
namespace Go.Proofs.Ytcbjfflaamlpcaa.Pure
open Go.RowKit Go.Proofs.YtcbjfflaamlpcaaW.PrintWords Go.Proofs.YtcbjfflaamlpcaaW.PrintLast Go.Proofs.YtcbjfflaamlpcaaW.PrintMore Go.Proofs.Ytcbjfflaamlpcaa.X Go.Proofs.Ytcbjfflaamlpcaa.Pl
theorem join_nil : ∀ l : List (List UInt8), Lib.join l [] = l.flatten
  | [] => rfl
  | x :: r => by
    rw [Lib.join_cons, List.flatten_cons]
    congr 1
    unfold Lib.joinTail
    congr 1
    exact (List.map_congr_left fun y _ => List.nil_append y).trans (List.map_id r)
/-- The text of letters put together. -/
theorem join_eq (L : List Wd) (h1 : L.length ≤ 1000) (h2 : L.flatten.length ≤ 1000) : strings_Join.f (L.map wb) (⟨#[]⟩ : ByteArray) = some (wb L.flatten) := by
  unfold strings_Join.f
  have e : (L.map wb).map (fun s => s.data.toList) = L := by
    have := bw_map_wb L
    exact this
  rw [e, show (⟨#[]⟩ : ByteArray).data.toList = [] from rfl, join_nil, List.length_map, if_pos ⟨by omega, by omega⟩]
  rfl
def goodB (t : List ND) (P : List Wd) (n : Int) (c : Nat) : Bool := !Pl.fatal t P n c && !winsB t P n false c
def pick (t : List ND) (P : List Wd) (n : Int) (l : List Nat) (z : Nat) : Nat := l.foldr (fun c b => if goodB t P n c = true then c else b) z
theorem pick_mem {t : List ND} {P : List Wd} {n : Int} : ∀ (l : List Nat) (z : Nat), pick t P n l z = z ∨ pick t P n l z ∈ l
  | [], z => .inl rfl
  | c :: l, z => by
    unfold pick
    rw [List.foldr_cons]
    by_cases h : goodB t P n c = true
    · rw [if_pos h]; exact .inr List.mem_cons_self
    · rw [if_neg h]
      rcases pick_mem (t := t) (P := P) (n := n) l z with h2 | h2
      · exact .inl h2
      · exact .inr (List.mem_cons_of_mem _ h2)
theorem pick_take {t : List ND} {P : List Wd} {n : Int} (l : List Nat) (j : Nat) (hj : j < l.length) (b : Nat) : pick t P n (l.take (j + 1)) b = pick t P n (l.take j) (if goodB t P n (l.getD j 0) = true then l.getD j 0 else b) := by
  unfold pick
  rw [List.take_succ_eq_append_getElem hj, List.foldr_append, List.getD_eq_getElem?_getD, List.getElem?_eq_getElem hj]
  rfl
theorem spec_pick {t : List ND} {P : List Wd} (h : GOk t P) (n : Int) (i : Nat) (R : ByteArray × Bool) : ∀ j b, j ≤ (kids t i).length → Ev (fun k => spec_BestGame.l0 k n ((pick t P n ((kids t i).take j) b : Nat) : Int) t) R → Ev (fun k => spec_BestGame.l1 k n (ints (kids t i)) (b : Nat) ((j : Int) - 1) t) R := by
  have hl := h.len
  have hkl := kids_length t i
  intro j
  induction j with
  | zero =>
    intro b _ hR
    exact Ev.step (fun k => by unfold spec_BestGame.l1; rfl) (ev_neg (by omega) hR)
  | succ j ih =>
    intro b hj hR
    have hj' : j < (kids t i).length := by omega
    rw [pick_take _ j hj'] at hR
    generalize hc : (kids t i).getD j 0 = c at hR
    have hmem : c ∈ kids t i := by rw [← hc]; exact getD_mem hj' 0
    have hg := kids_gt h hmem
    have hf := l11Fatal_ev h n hg.2
    have hw := l11Wins_ok h n false hg.2
    refine Ev.step (fun k => by unfold spec_BestGame.l1; rfl) ?_
    rw [show ((j + 1 : Nat) : Int) - 1 = (j : Int) by omega, w64 (x := (j : Int) - 1) (by omega) (by omega)]
    refine ev_pos (by omega) (ev_pos (by omega) (ev_pos (by rw [ints_length]; omega) ?_))
    rw [rd_ints hj', hc]
    refine Ev.bind hf ?_
    unfold goodB at hR
    cases hfc : Pl.fatal t P n c with
    | true =>
      rw [hfc] at hR
      refine ev_pos rfl (ih b (by omega) ?_)
      exact hR
    | false =>
      rw [hfc] at hR
      refine ev_neg (by decide) (Ev.bind hw ?_)
      cases hwc : winsB t P n false c with
      | true =>
        rw [hwc] at hR
        exact ev_pos rfl (ih b (by omega) hR)
      | false =>
        rw [hwc] at hR
        exact ev_neg (by decide) (ih c (by omega) hR)
theorem impl_pick {t : List ND} {P : List Wd} (h : GOk t P) (n : Int) (i : Nat) (L : List Wd) (hL : L.length ≤ 1000) (R : ByteArray × Bool) : ∀ j b, j ≤ (kids t i).length → pick t P n ((kids t i).take j) b < t.length → 0 ≤ (t.getD (pick t P n ((kids t i).take j) b) zND).f0 → (t.getD (pick t P n ((kids t i).take j) b) zND).f0 ≤ 25 →
    Ev (fun k => impl_BestGame.l0 k ((L ++ [[letterB (t.getD (pick t P n ((kids t i).take j) b) zND).f0]]).map wb) ((pick t P n ((kids t i).take j) b : Nat) : Int) t t n (P.map wb)) R → Ev (fun k => impl_BestGame.l1 k (L.map wb) (ints (kids t i)) (b : Nat) ((j : Int) - 1) t t n (P.map wb)) R := by
  have hl := h.len
  have hkl := kids_length t i
  intro j
  induction j with
  | zero =>
    intro b _ h1 h2 h3 hR
    refine Ev.step (fun k => by unfold impl_BestGame.l1; rfl) (ev_neg (by omega) ?_)
    have hb : b < t.length := h1
    refine ev_pos (by omega) (ev_pos (by omega) ?_)
    rw [rd_nd' hb]
    have e : impl_letter.f (t.getD b zND).f0 = some (wb [letterB (t.getD b zND).f0]) := by
      unfold impl_letter.f
      rw [letter_str (c := (t.getD b zND).f0) h2 h3]
    rw [e]
    refine ev_some (ev_pos (by rw [List.length_map]; omega) ?_)
    rw [List.map_append] at hR
    exact hR
  | succ j ih =>
    intro b hj h1 h2 h3 hR
    have hj' : j < (kids t i).length := by omega
    rw [pick_take _ j hj'] at hR h1 h2 h3
    generalize hc : (kids t i).getD j 0 = c at hR h1 h2 h3
    have hmem : c ∈ kids t i := by rw [← hc]; exact getD_mem hj' 0
    have hg := kids_gt h hmem
    refine Ev.step (fun k => by unfold impl_BestGame.l1; rfl) ?_
    rw [show ((j + 1 : Nat) : Int) - 1 = (j : Int) by omega, w64 (x := (j : Int) - 1) (by omega) (by omega)]
    refine ev_pos (by omega) (ev_pos (by omega) (ev_pos (by rw [ints_length]; omega) ?_))
    rw [rd_ints hj', hc]
    refine Ev.bind (isGood_ok h n hg.2) ?_
    cases hgc : goodB t P n c with
    | true =>
      rw [hgc, if_pos rfl] at hR h1 h2 h3
      rw [show (!Pl.fatal t P n c && !winsB t P n false c) = true from hgc]
      exact ev_pos rfl (ih c (by omega) h1 h2 h3 hR)
    | false =>
      rw [hgc, if_neg (by decide)] at hR h1 h2 h3
      rw [show (!Pl.fatal t P n c && !winsB t P n false c) = false from hgc]
      exact ev_neg (by decide) (ih b (by omega) h1 h2 h3 hR)
theorem walk_both {t : List ND} {P : List Wd} (h : GOk t P) (n : Int) : ∀ d i (L : List Wd), t.length - i ≤ d → i < t.length → L.flatten = P.getD i [] → L.length ≤ i →
    ∃ r, Ev (fun k => spec_BestGame.l0 k n (i : Nat) t) r ∧ Ev (fun k => impl_BestGame.l0 k (L.map wb) (i : Nat) t t n (P.map wb)) r
  | 0, i, L, hd, hi, _, _ => absurd hi (by omega)
  | d + 1, i, L, hd, hi, hL, hLl => by
    have hl := h.len
    have hkl := kids_length t i
    have hs := h.short' hi
    have hjoin := join_eq L (by omega) (by rw [hL]; omega)
    rw [hL] at hjoin
    have hf := l11Fatal_ev h n hi
    have hf2 := isFatal_eq h n hi
    cases hfc : Pl.fatal t P n i with
    | true =>
      rw [hfc] at hf hf2
      refine ⟨(wb (P.getD i []), true), Ev.step (fun k => by unfold spec_BestGame.l0; rfl) (Ev.bind hf ?_), Ev.step (fun k => by unfold impl_BestGame.l0; rfl) ?_⟩
      · refine ev_pos rfl ?_
        exact Ev.bind (l2Prefix_ok h.toTOk i hi) (ev_eq rfl)
      · rw [hf2, hjoin]
        exact ev_some (ev_pos rfl (ev_some (ev_eq rfl)))
    | false =>
      rw [hfc] at hf hf2
      by_cases hk : kids t i = []
      · have a := l2Kids_ev h hi
        have b := kids_ev (t := t) (by omega) i
        rw [hk] at a b
        refine ⟨(wb (P.getD i []), true), Ev.step (fun k => by unfold spec_BestGame.l0; rfl) (Ev.bind hf ?_), Ev.step (fun k => by unfold impl_BestGame.l0; rfl) ?_⟩
        · refine ev_neg (by decide) (Ev.bind a ?_)
          refine ev_pos rfl ?_
          exact Ev.bind (l2Prefix_ok h.toTOk i hi) (ev_eq rfl)
        · rw [hf2, hjoin]
          refine ev_some (ev_neg (by decide) (Ev.bind b ?_))
          exact ev_pos rfl (ev_some (ev_eq rfl))
      · have hk0 : 0 < (kids t i).length := by
          rcases Nat.eq_zero_or_pos (kids t i).length with e | e
          · exact absurd (List.length_eq_zero_iff.1 e) hk
          · exact e
        have hz : (kids t i).getD 0 0 ∈ kids t i := getD_mem hk0 0
        have hpm : pick t P n ((kids t i).take (kids t i).length) ((kids t i).getD 0 0) ∈ kids t i := by
          rw [List.take_of_length_le (Nat.le_refl _)]
          rcases pick_mem (t := t) (P := P) (n := n) (kids t i) ((kids t i).getD 0 0) with e | e
          · rw [e]; exact hz
          · exact e
        have hg := kids_gt h hpm
        have hpar := (mem_kids.1 hpm).2
        have sp := (prefP_spec h.pre).2.2.2.2 _ (Nat.lt_of_le_of_lt (Nat.zero_le _) hg.1) hg.2
        unfold par at hpar
        rw [getD_nd hg.2] at hpar
        have e0 := getD_nd hg.2
        obtain ⟨r, h1, h2⟩ := walk_both h n d (pick t P n ((kids t i).take (kids t i).length) ((kids t i).getD 0 0)) (L ++ [[letterB (t.getD (pick t P n ((kids t i).take (kids t i).length) ((kids t i).getD 0 0)) zND).f0]]) (by omega) hg.2 (by
          rw [List.flatten_append, hL, sp.2.2.2.2, hpar, e0, Int.toNat_natCast]; simp) (by rw [List.length_append, List.length_singleton]; omega)
        have q1 := spec_pick h n i r _ _ (Nat.le_refl _) h1
        have q2 := impl_pick h n i L (by omega) r _ _ (Nat.le_refl _) hg.2 (by rw [e0]; exact sp.2.2.1) (by rw [e0]; exact sp.2.2.2.1) h2
        refine ⟨r, Ev.step (fun k => by unfold spec_BestGame.l0; rfl) (Ev.bind hf ?_), Ev.step (fun k => by unfold impl_BestGame.l0; rfl) ?_⟩
        · refine ev_neg (by decide) (Ev.bind (l2Kids_ev h hi) ?_)
          refine ev_neg (by rw [ints_length]; omega) (ev_pos (by rw [ints_length]; omega) ?_)
          rw [show rd (ints (kids t i)) 0 = (((kids t i).getD 0 0 : Nat) : Int) from rd_ints hk0, ints_length, w64 (by omega) (by omega)]
          exact q1
        · rw [hf2]
          refine ev_some (ev_neg (by decide) (Ev.bind (kids_ev (by omega) i) ?_))
          refine ev_neg (by rw [ints_length]; omega) (ev_pos (by rw [ints_length]; omega) ?_)
          rw [show rd (ints (kids t i)) 0 = (((kids t i).getD 0 0 : Nat) : Int) from rd_ints hk0, ints_length, w64 (by omega) (by omega)]
          exact q2
theorem both (t : List ND) (ht : t.length ≤ 2000000) (n : Int) : ∃ r, Ev (fun k => spec_BestGame.f k t n) r ∧ Ev (fun k => impl_BestGame.f k t n) r := by
  unfold spec_BestGame.f impl_BestGame.f
  by_cases hg : GdN t 0 n
  · obtain ⟨P, hP, hT, hn, i, hi0, hi⟩ := hg.get
    obtain ⟨r, h1, h2⟩ := walk_both hP n t.length 0 [] (by omega) (by have := hP.one; omega) (by rw [(prefP_spec hP.pre).2.2.2.1]; rfl) (Nat.le_refl _)
    exact ⟨r, Ev.bind (l11Good_yes ht hg) (ev_pos rfl h1), Ev.bind (newGame_yes hP hT hn) (ev_pos rfl h2)⟩
  · refine ⟨(⟨#[]⟩, false), Ev.bind (l11Good_no ht hg) (ev_neg (by decide) (ev_eq rfl)), Ev.bind (newGame_no ht ?_) (ev_neg (by decide) (ev_eq rfl))⟩
    rintro ⟨h1, h2⟩
    obtain ⟨P, hP⟩ := ((isT_iff t).1 h1).gok
    have := hP.one
    exact hg ⟨h1, by omega, h2⟩
theorem FnExactBestGame : ∀ (l0_0 : List (S80)) (a1 : Int), (l0_0.length * 24 ≤ 140737488351232 ∧ ∀ y ∈ l0_0, ((Lit.int .i64 y.f0).wf = true ∧ (Lit.int .i64 y.f1).wf = true ∧ True)) → (Lit.int .i64 a1).wf = true → ∃ k, laws_FnExactBestGame.f k l0_0 a1 = some true := by
  intro l n hl _
  unfold laws_FnExactBestGame.f
  refine Ev.rounds (ev_size hl.1 fun hlen => ?_)
  obtain ⟨⟨b, ok⟩, h1, h2⟩ := both (l.map cv) (by rw [List.length_map]; omega) n
  have hT := toTrie_ev l (by omega)
  refine Ev.bind hT (Ev.bind h1 (Ev.bind hT (Ev.bind h2 ?_)))
  simp only [bne_self_eq_false]
  refine ev_pos trivial (Ev.step (fun k => by unfold laws_FnExactBestGame.j0; rfl) (ev_neg (by decide) (Ev.bind hT (Ev.bind (eqTrie_ev (l.map cv) (l.map cv) (by rw [List.length_map]; omega)) ?_))))
  rw [decide_eq_true rfl]
  exact ev_pos rfl (ev_eq rfl)
end Go.Proofs.Ytcbjfflaamlpcaa.Pure
