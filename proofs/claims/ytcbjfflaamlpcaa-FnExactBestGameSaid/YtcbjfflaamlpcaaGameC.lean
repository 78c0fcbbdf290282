/- Plain: who wins a game from a node on. -/
import Derived.Test.YtcbjfflaamlpcaaX9
import Derived.Test.YtcbjfflaamlpcaaX16
import Derived.Test.YtcbjfflaamlpcaaGameB
set_option linter.unusedVariables false
set_option linter.unusedSimpArgs false
namespace Go.Proofs.Ytcbjfflaamlpcaa.Pl
open Go.RowKit Go.Proofs.YtcbjfflaamlpcaaW.PrintWords Go.Proofs.YtcbjfflaamlpcaaW.PrintLast Go.Proofs.YtcbjfflaamlpcaaW.PrintMore Go.Proofs.Ytcbjfflaamlpcaa.X

theorem ev_anyM {α : Type} {F : Nat → α → Option Bool} {p : α → Bool} : ∀ {l : List α}, (∀ z ∈ l, Ev (fun k => F k z) (p z)) → Ev (fun k => G.anyM (F k) l) (l.any p)
  | [], _ => Ev.now _
  | x :: l, h => by
    show Ev (fun k => (F k x).bind fun b => if b = true then some true else G.anyM (F k) l) (p x || l.any p)
    refine Ev.bind (h x List.mem_cons_self) ?_
    cases p x with
    | true => exact ev_pos rfl (ev_eq rfl)
    | false => exact ev_neg (by decide) (ev_anyM fun z hz => h z (List.mem_cons_of_mem _ hz))
/-- Is there a kid that wins for who moves; with 'o', a kid that is fatal counts as won. -/
def winsF (t : List ND) (P : List Wd) (n : Int) (o : Bool) : Nat → Nat → Bool
  | 0, _ => false
  | d + 1, i => (kids t i).any fun c => if fatal t P n c = true then o else !winsF t P n o d c
theorem any_congr' {α : Type} {l : List α} {p q : α → Bool} (h : ∀ x ∈ l, p x = q x) : l.any p = l.any q := by
  induction l with
  | nil => rfl
  | cons x l ih => rw [List.any_cons, List.any_cons, h x List.mem_cons_self, ih fun y hy => h y (List.mem_cons_of_mem _ hy)]
theorem winsF_stab {t : List ND} {P : List Wd} (h : GOk t P) (n : Int) (o : Bool) : ∀ d e i, t.length - i ≤ d → t.length - i ≤ e → winsF t P n o d i = winsF t P n o e i
  | 0, 0, _, _, _ => rfl
  | 0, e + 1, i, hd, _ => by
    show false = (kids t i).any _
    rw [show kids t i = [] from ?_]; · rfl
    cases hk : kids t i with
    | nil => rfl
    | cons c l => have := kids_gt h (i := i) (c := c) (by rw [hk]; exact List.mem_cons_self); omega
  | d + 1, 0, i, _, he => by
    show (kids t i).any _ = false
    rw [show kids t i = [] from ?_]; · rfl
    cases hk : kids t i with
    | nil => rfl
    | cons c l => have := kids_gt h (i := i) (c := c) (by rw [hk]; exact List.mem_cons_self); omega
  | d + 1, e + 1, i, hd, he => by
    refine any_congr' fun c hc => ?_
    have := kids_gt h hc
    rw [winsF_stab h n o d e c (by omega) (by omega)]
def winsB (t : List ND) (P : List Wd) (n : Int) (o : Bool) (i : Nat) : Bool := winsF t P n o t.length i
theorem winsB_eq {t : List ND} {P : List Wd} (h : GOk t P) (n : Int) (o : Bool) {i : Nat} : winsB t P n o i = (kids t i).any fun c => if fatal t P n c = true then o else !winsB t P n o c := by
  unfold winsB
  rw [winsF_stab h n o t.length (t.length + 1) i (by omega) (by omega)]
  rfl
theorem l11Wins_ev {t : List ND} {P : List Wd} (h : GOk t P) (n : Int) (o : Bool) : ∀ d i, t.length - i ≤ d → i < t.length → Ev (fun k => spec_l11Wins.f k t i n o) (winsF t P n o d i)
  | 0, i, hd, hi => absurd hi (by omega)
  | d + 1, i, hd, hi => by
    refine Ev.step (fun k => by unfold spec_l11Wins.f; rfl) (Ev.bind (l2Kids_ev h hi) ?_)
    have hl := h.len
    have hkl := kids_length t i
    have key := ev_down (g := fun k j => spec_l11Wins.l0 k n o (ints (kids t i)) (j : Nat) t) (R := fun j => ((kids t i).drop j).any fun c => if fatal t P n c = true then o else !winsF t P n o d c) (kids t i).length
      (by
        refine Ev.step (fun k => by unfold spec_l11Wins.l0; rfl) (ev_neg (by rw [ints_length]; omega) (ev_eq ?_))
        rw [List.drop_of_length_le (Nat.le_refl _)]; rfl)
      (fun j hj ih => by
        rw [drop_cons hj 0, List.any_cons]
        generalize hc : (kids t i).getD j 0 = c
        have hmem : c ∈ kids t i := by rw [← hc]; exact getD_mem hj 0
        have hcl := (kids_gt h hmem).2
        have hf := l11Fatal_ev h n hcl
        have hgt := (kids_gt h hmem).1
        have hw := l11Wins_ev h n o d c (by omega) hcl
        refine Ev.step (fun k => by unfold spec_l11Wins.l0; rfl) (ev_pos (by rw [ints_length]; omega) (ev_pos (by omega) ?_))
        rw [rd_ints hj, hc, inc (by omega)]
        refine Ev.bind hf ?_
        cases hfc : fatal t P n c with
        | true =>
          rw [hfc] at hf
          refine ev_pos rfl ?_
          cases o with
          | true => exact ev_pos rfl (ev_eq rfl)
          | false =>
            refine ev_neg (by decide) (Ev.bind hf (ev_pos rfl ?_))
            exact ih
        | false =>
          rw [hfc] at hf
          refine ev_neg (by decide) (Ev.bind hf (ev_neg (by decide) (Ev.bind hw ?_)))
          cases winsF t P n o d c with
          | true => exact ev_pos rfl ih
          | false => exact ev_neg (by decide) (ev_eq rfl))
    exact key 0 (Nat.zero_le _)
theorem l11Wins_ok {t : List ND} {P : List Wd} (h : GOk t P) (n : Int) (o : Bool) {i : Nat} (hi : i < t.length) : Ev (fun k => spec_l11Wins.f k t i n o) (winsB t P n o i) := l11Wins_ev h n o t.length i (by omega) hi
theorem wins_ev {t : List ND} {P : List Wd} (h : GOk t P) (n : Int) : ∀ d i, t.length - i ≤ d → i < t.length → Ev (fun k => impl_game_wins.f k t n (P.map wb) i) (winsF t P n false d i)
  | 0, i, hd, hi => absurd hi (by omega)
  | d + 1, i, hd, hi => by
    have hl := h.len
    refine Ev.step (fun k => by unfold impl_game_wins.f; rfl) (Ev.bind (kids_ev (by omega) i) ?_)
    have key := ev_anyM (l := ints (kids t i)) (p := fun c : Int => if fatal t P n c.toNat = true then false else !winsF t P n false d c.toNat) (F := fun k (c : Int) => (impl_game_isFatal.f t n (P.map wb) c).bind fun b => if b = true then some false else (impl_game_wins.f k t n (P.map wb) c).bind fun b2 => some (!b2)) (fun z hz => by
      unfold ints at hz
      obtain ⟨c, hc, rfl⟩ := List.mem_map.1 hz
      have hg := kids_gt h hc
      have hw := wins_ev h n d c (by omega) hg.2
      rw [isFatal_eq h n hg.2, Int.toNat_natCast]
      refine ev_some ?_
      cases fatal t P n c with
      | true => exact ev_pos rfl (ev_eq rfl)
      | false => exact ev_neg (by decide) (Ev.bind hw (ev_eq rfl)))
    have e : (ints (kids t i)).any (fun c : Int => if fatal t P n c.toNat = true then false else !winsF t P n false d c.toNat) = winsF t P n false (d + 1) i := by
      unfold ints
      rw [List.any_map]; rfl
    rw [e] at key
    exact key
theorem wins_ok {t : List ND} {P : List Wd} (h : GOk t P) (n : Int) {i : Nat} (hi : i < t.length) : Ev (fun k => impl_game_wins.f k t n (P.map wb) i) (winsB t P n false i) := wins_ev h n t.length i (by omega) hi
theorem isGood_ok {t : List ND} {P : List Wd} (h : GOk t P) (n : Int) {i : Nat} (hi : i < t.length) : Ev (fun k => impl_game_isGood.f k t n (P.map wb) i) (!fatal t P n i && !winsB t P n false i) := by
  unfold impl_game_isGood.f
  rw [isFatal_eq h n hi]
  refine ev_some ?_
  cases fatal t P n i with
  | true => exact ev_pos rfl (ev_eq rfl)
  | false => exact ev_neg (by decide) (Ev.bind (wins_ok h n hi) (ev_eq rfl))
end Go.Proofs.Ytcbjfflaamlpcaa.Pl
