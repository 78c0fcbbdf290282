/- Plain: how long a game lasts. -/
import Derived.Test.YtcbjfflaamlpcaaX11
import Derived.Test.YtcbjfflaamlpcaaX18
import Derived.Test.YtcbjfflaamlpcaaGameC
set_option linter.unusedVariables false
set_option linter.unusedSimpArgs false
namespace Go.Proofs.Ytcbjfflaamlpcaa.Pl
open Go.RowKit Go.Proofs.YtcbjfflaamlpcaaW.PrintWords Go.Proofs.YtcbjfflaamlpcaaW.PrintLast Go.Proofs.YtcbjfflaamlpcaaW.PrintMore Go.Proofs.Ytcbjfflaamlpcaa.X

/-- The better of what was had and of what a kid gives: -1 is nothing. -/
def better (w : Bool) (best x : Int) : Int := if best < 0 then x else if w = true then (if x < best then x else best) else (if x > best then x else best)
/-- Does a kid count? If who moves wins, those alone that win. -/
def counts (t : List ND) (P : List Wd) (n : Int) (w : Bool) (c : Nat) : Bool := if w = true then !fatal t P n c && !winsB t P n false c else true
def lenF (t : List ND) (P : List Wd) (n : Int) : Nat → Nat → Int
  | 0, _ => 0
  | d + 1, i => if fatal t P n i = true then 0 else max ((kids t i).foldl (fun b c => if counts t P n (winsB t P n false i) c = true then better (winsB t P n false i) b (1 + lenF t P n d c) else b) (-1)) 0
theorem lenF_range {t : List ND} {P : List Wd} (h : GOk t P) (n : Int) : ∀ d i, 0 ≤ lenF t P n d i ∧ lenF t P n d i ≤ d
  | 0, i => by unfold lenF; omega
  | d + 1, i => by
    unfold lenF
    by_cases hf : fatal t P n i = true
    · rw [if_pos hf]; omega
    rw [if_neg hf]
    have key : ∀ (l : List Nat) (b : Int), -1 ≤ b → b ≤ d + 1 → (l.foldl (fun b c => if counts t P n (winsB t P n false i) c = true then better (winsB t P n false i) b (1 + lenF t P n d c) else b) b) ≤ d + 1 := by
      intro l
      induction l with
      | nil => intro b _ h2; exact h2
      | cons c l ih =>
        intro b h1 h2
        rw [List.foldl_cons]
        have := lenF_range h n d c
        refine ih _ ?_ ?_
        all_goals
          split
          · unfold better
            split
            · omega
            · split <;> split <;> omega
          · omega
    have := key (kids t i) (-1) (by omega) (by omega)
    omega
/-- What the walk over the kids holds: nothing yet, or a length; something once a kid has counted. -/
theorem fold_pos {w : Bool} {p : Nat → Bool} {L : Nat → Int} (hL : ∀ c, 0 ≤ L c) : ∀ (l : List Nat) (b : Int), (b = -1 ∨ 1 ≤ b) → (1 ≤ b ∨ l.any p = true) → 1 ≤ l.foldl (fun b c => if p c = true then better w b (1 + L c) else b) b
  | [], b, _, h => by
    rcases h with h | h
    · exact h
    · exact absurd h (by simp)
  | c :: l, b, hb, h => by
    rw [List.foldl_cons]
    have hc := hL c
    have hbet : 1 ≤ better w b (1 + L c) := by
      unfold better
      split
      · omega
      · split <;> split <;> omega
    by_cases hp : p c = true
    · rw [if_pos hp]
      exact fold_pos hL l _ (.inr hbet) (.inl hbet)
    · rw [if_neg hp]
      refine fold_pos hL l b hb ?_
      rcases h with h | h
      · exact .inl h
      · rw [List.any_cons] at h
        have : p c = false := by simpa using hp
        rw [this, Bool.false_or] at h
        exact .inr h
theorem l11Length_ev {t : List ND} {P : List Wd} (h : GOk t P) (n : Int) : ∀ d i, t.length - i ≤ d → i < t.length → d ≤ 1000 → Ev (fun k => spec_l11Length.f k t i n) (lenF t P n d i)
  | 0, i, hd, hi, _ => absurd hi (by omega)
  | d + 1, i, hd, hi, hd2 => by
    refine Ev.step (fun k => by unfold spec_l11Length.f; rfl) (Ev.bind (l2Kids_ev h hi) ?_)
    have hl := h.len
    have hkl := kids_length t i
    unfold lenF
    by_cases hk : kids t i = []
    · rw [hk]
      refine ev_pos rfl (Ev.step (fun k => by unfold spec_l11Length.j0; rfl) (ev_pos rfl (ev_eq ?_)))
      split <;> rfl
    have hk0 : (kids t i).length ≠ 0 := fun e => hk (List.length_eq_zero_iff.1 e)
    refine ev_neg (by rw [ints_length]; omega) (Ev.bind (l11Fatal_ev h n hi) ?_)
    cases hf : fatal t P n i with
    | true => exact Ev.step (fun k => by unfold spec_l11Length.j0; rfl) (ev_pos rfl (ev_eq (by rw [if_pos rfl])))
    | false =>
      rw [if_neg (by decide)]
      refine Ev.step (fun k => by unfold spec_l11Length.j0; rfl) (ev_neg (by decide) (Ev.bind (l11Wins_ok h n false hi) ?_))
      have hw := winsB_eq h n false (i := i)
      generalize hwb : winsB t P n false i = w at hw
      have hpos : 1 ≤ (kids t i).foldl (fun b c => if counts t P n w c = true then better w b (1 + lenF t P n d c) else b) (-1) := by
        refine fold_pos (fun c => (lenF_range h n d c).1) _ _ (.inl rfl) (.inr ?_)
        cases w with
        | true =>
          refine Eq.trans (any_congr' fun c _ => ?_) hw.symm
          unfold counts
          rw [if_pos rfl]
          cases fatal t P n c <;> simp
        | false =>
          cases hkk : kids t i with
          | nil => exact absurd hkk hk
          | cons c l => rfl
      rw [show max ((kids t i).foldl (fun b c => if counts t P n w c = true then better w b (1 + lenF t P n d c) else b) (-1)) 0 = (kids t i).foldl (fun b c => if counts t P n w c = true then better w b (1 + lenF t P n d c) else b) (-1) by omega]
      clear hpos hw
      have key : ∀ m j (b : Int), (kids t i).length - j = m → j ≤ (kids t i).length → (b = -1 ∨ 1 ≤ b) → Ev (fun k => spec_l11Length.l0 k n (ints (kids t i)) w b (j : Nat) t) (((kids t i).drop j).foldl (fun b c => if counts t P n w c = true then better w b (1 + lenF t P n d c) else b) b) := by
        intro m
        induction m with
        | zero =>
          intro j b hm hj hb
          refine Ev.step (fun k => by unfold spec_l11Length.l0; rfl) (ev_neg (by rw [ints_length]; omega) (ev_eq ?_))
          rw [List.drop_of_length_le (by omega)]; rfl
        | succ m ih =>
          intro j b hm hj hb
          have hj' : j < (kids t i).length := by omega
          rw [drop_cons hj' 0, List.foldl_cons]
          generalize hc : (kids t i).getD j 0 = c
          have hmem : c ∈ kids t i := by rw [← hc]; exact getD_mem hj' 0
          have hg := kids_gt h hmem
          have hr := lenF_range h n d c
          have hlen := l11Length_ev h n d c (by omega) hg.2 (by omega)
          have hwc := l11Wins_ok h n false hg.2
          refine Ev.step (fun k => by unfold spec_l11Length.l0; rfl) (ev_pos (by rw [ints_length]; omega) (ev_pos (by omega) ?_))
          rw [rd_ints hj', hc, inc (by omega)]
          refine Ev.bind (l11Fatal_ev h n hg.2) ?_
          have nxt := fun b hb => ih (j + 1) b (by omega) (by omega) hb
          have e1 : wrap64 (1 + lenF t P n d c) = 1 + lenF t P n d c := w64 (by omega) (by omega)
          have up : ∀ b : Int, (b = -1 ∨ 1 ≤ b) → better false b (1 + lenF t P n d c) = if 1 + lenF t P n d c > b then 1 + lenF t P n d c else b := by
            intro b hb
            unfold better
            by_cases hb0 : b < 0
            · rw [if_pos hb0, if_pos (by omega)]
            · rw [if_neg hb0, if_neg (by decide)]
          cases hfc : fatal t P n c with
          | true =>
            refine ev_pos rfl (Ev.bind hlen ?_)
            cases w with
            | true =>
              refine ev_pos rfl ?_
              rw [show counts t P n true c = false by unfold counts; rw [hfc]; rfl, if_neg (by decide)]
              exact nxt b hb
            | false =>
              rw [show counts t P n false c = true from rfl, if_pos rfl, e1, up b hb]
              refine ev_neg (by decide) ?_
              by_cases hx : 1 + lenF t P n d c > b
              · rw [if_pos hx]; exact ev_pos hx (nxt _ (.inr (by omega)))
              · rw [if_neg hx]; exact ev_neg hx (nxt _ hb)
          | false =>
            refine ev_neg (by decide) (Ev.bind hwc (Ev.bind hlen ?_))
            cases w with
            | true =>
              refine ev_pos rfl ?_
              cases hwc2 : winsB t P n false c with
              | true =>
                rw [show counts t P n true c = false by unfold counts; rw [hfc, hwc2]; rfl, if_neg (by decide)]
                exact ev_pos rfl (nxt b hb)
              | false =>
                rw [show counts t P n true c = true by unfold counts; rw [hfc, hwc2]; rfl, if_pos rfl, e1]
                refine ev_neg (by decide) ?_
                unfold better
                by_cases hb0 : b < 0
                · rw [if_pos hb0]; exact ev_pos hb0 (nxt _ (.inr (by omega)))
                · rw [if_neg hb0, if_pos rfl]
                  refine ev_neg hb0 ?_
                  by_cases hx : 1 + lenF t P n d c < b
                  · rw [if_pos hx]; exact ev_pos hx (nxt _ (.inr (by omega)))
                  · rw [if_neg hx]; exact ev_neg hx (nxt _ hb)
            | false =>
              rw [show counts t P n false c = true from rfl, if_pos rfl, e1, up b hb]
              refine ev_neg (by decide) ?_
              by_cases hx : 1 + lenF t P n d c > b
              · rw [if_pos hx]; exact ev_pos hx (nxt _ (.inr (by omega)))
              · rw [if_neg hx]; exact ev_neg hx (nxt _ hb)
      exact key _ 0 (-1) rfl (Nat.zero_le _) (.inl rfl)
theorem l11Length_ok {t : List ND} {P : List Wd} (h : GOk t P) (n : Int) {i : Nat} (hi : i < t.length) : Ev (fun k => spec_l11Length.f k t i n) (lenF t P n t.length i) := l11Length_ev h n t.length i (by omega) hi (by have := h.len; omega)
theorem length_ev {t : List ND} {P : List Wd} (h : GOk t P) (n : Int) : ∀ d i, t.length - i ≤ d → i < t.length → d ≤ 1000 → Ev (fun k => impl_game_length.f k t n (P.map wb) i) (lenF t P n d i)
  | 0, i, hd, hi, _ => absurd hi (by omega)
  | d + 1, i, hd, hi, hd2 => by
    have hl := h.len
    have hkl := kids_length t i
    refine Ev.step (fun k => by unfold impl_game_length.f; rfl) (Ev.bind (wins_ok h n hi) ?_)
    unfold lenF
    rw [isFatal_eq h n hi]
    refine ev_some ?_
    cases hf : fatal t P n i with
    | true => exact ev_pos rfl (ev_eq (by rw [if_pos rfl]))
    | false =>
      rw [if_neg (by decide)]
      refine ev_neg (by decide) (Ev.bind (kids_ev (by omega) i) ?_)
      generalize winsB t P n false i = w
      have key : ∀ m j (b : Int), (kids t i).length - j = m → j ≤ (kids t i).length → (b = -1 ∨ 1 ≤ b) → Ev (fun k => impl_game_length.l0 k b w (ints (kids t i)) ((ints (kids t i)).length : Int) (j : Nat) t n (P.map wb)) (max (((kids t i).drop j).foldl (fun b c => if counts t P n w c = true then better w b (1 + lenF t P n d c) else b) b) 0) := by
        intro m
        induction m with
        | zero =>
          intro j b hm hj hb
          refine Ev.step (fun k => by unfold impl_game_length.l0; rfl) (ev_neg (by rw [ints_length]; omega) (ev_eq ?_))
          rw [List.drop_of_length_le (by omega)]
          show mx b 0 = max b 0
          unfold mx
          split <;> omega
        | succ m ih =>
          intro j b hm hj hb
          have hj' : j < (kids t i).length := by omega
          rw [drop_cons hj' 0, List.foldl_cons]
          generalize hc : (kids t i).getD j 0 = c
          have hmem : c ∈ kids t i := by rw [← hc]; exact getD_mem hj' 0
          have hg := kids_gt h hmem
          have hr := lenF_range h n d c
          have hlen := length_ev h n d c (by omega) hg.2 (by omega)
          have nxt := fun b hb => ih (j + 1) b (by omega) (by omega) hb
          have e1 : wrap64 (lenF t P n d c + 1) = 1 + lenF t P n d c := by rw [w64 (by omega) (by omega)]; omega
          refine Ev.step (fun k => by unfold impl_game_length.l0; rfl) (ev_pos (by rw [ints_length]; omega) (ev_pos (by omega) (ev_pos (by rw [ints_length]; omega) ?_)))
          rw [rd_ints hj', hc]
          refine Ev.bind hlen ?_
          rw [e1]
          have jt : Ev (fun k => impl_game_length.j1 k b w (1 + lenF t P n d c) (ints (kids t i)) ((ints (kids t i)).length : Int) (j : Nat) (!counts t P n w c) t n (P.map wb)) (max (((kids t i).drop (j + 1)).foldl (fun b c => if counts t P n w c = true then better w b (1 + lenF t P n d c) else b) (if counts t P n w c = true then better w b (1 + lenF t P n d c) else b)) 0) := by
            cases hcc : counts t P n w c with
            | false =>
              refine Ev.step (fun k => by unfold impl_game_length.j1; rfl) (ev_pos rfl ?_)
              rw [inc (by omega), if_neg (by decide)]
              exact nxt b hb
            | true =>
              refine Ev.step (fun k => by unfold impl_game_length.j1; rfl) (ev_neg (by decide) ?_)
              rw [inc (by omega), if_pos rfl]
              unfold better
              by_cases hb0 : b < 0
              · rw [if_pos hb0]; exact ev_pos hb0 (nxt _ (.inr (by omega)))
              rw [if_neg hb0]
              refine ev_neg hb0 ?_
              cases w with
              | true =>
                rw [if_pos rfl]
                refine ev_pos rfl ?_
                by_cases hx : 1 + lenF t P n d c < b
                · rw [if_pos hx]; exact ev_pos hx (nxt _ (.inr (by omega)))
                · rw [if_neg hx]; exact ev_neg hx (nxt _ hb)
              | false =>
                rw [if_neg (by decide)]
                refine ev_neg (by decide) ?_
                by_cases hx : 1 + lenF t P n d c > b
                · rw [if_pos hx]; exact ev_pos hx (nxt _ (.inr (by omega)))
                · rw [if_neg hx]; exact ev_neg hx (nxt _ hb)
          cases w with
          | true =>
            refine ev_pos rfl (Ev.bind (isGood_ok h n hg.2) ?_)
            exact jt
          | false => exact ev_neg (by decide) jt
      exact key _ 0 (-1) rfl (Nat.zero_le _) (.inl rfl)
theorem length_ok {t : List ND} {P : List Wd} (h : GOk t P) (n : Int) {i : Nat} (hi : i < t.length) : Ev (fun k => impl_game_length.f k t n (P.map wb) i) (lenF t P n t.length i) := length_ev h n t.length i (by omega) hi (by have := h.len; omega)
end Go.Proofs.Ytcbjfflaamlpcaa.Pl
