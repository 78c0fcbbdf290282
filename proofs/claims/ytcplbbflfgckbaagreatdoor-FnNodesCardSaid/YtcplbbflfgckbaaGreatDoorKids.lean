/- Plain: a node's kid with a letter; each prefix has one node. -/
import Derived.Test.YtcplbbflfgckbaaGreatDoorX22
import Derived.Test.YtcplbbflfgckbaaGreatDoorTrieG
set_option linter.unusedVariables false
set_option linter.unusedSimpArgs false
namespace Go.Proofs.YtcplbbflfgckbaaGreatDoor.Pl
open Go.RowKit Go.Proofs.YtcplbbflfgckbaaGreatDoorW.PrintWords Go.Proofs.YtcplbbflfgckbaaGreatDoorW.PrintLast Go.Proofs.YtcplbbflfgckbaaGreatDoorW.PrintMore Go.Proofs.YtcplbbflfgckbaaGreatDoor.X

/-- The kid with a letter, or -1. -/
def asKid : Option Nat → Int
  | some c => (c : Int)
  | none => -1
def kidAt (t : List ND) (i : Nat) (x : Int) : Int := asKid ((kids t i).find? fun c => (t.getD c zND).f0 = x)
theorem l2Kid_ev {t : List ND} {P : List Wd} (h : GOk t P) {i : Nat} (hi : i < t.length) (x : Int) : Ev (fun k => spec_l2Kid.f k t i x) (kidAt t i x) := by
  have hl := h.len
  unfold spec_l2Kid.f kidAt kids
  rw [inc (by omega), kidsFrom_skip h i (i + 1) (Nat.le_refl _)]
  have key : ∀ d j, t.length - j = d → j ≤ t.length → Ev (fun k => spec_l2Kid.l0 k i x (j : Nat) t) (asKid ((kidsFrom t i j).find? fun c => (t.getD c zND).f0 = x)) := by
    intro d
    induction d with
    | zero =>
      intro j hd hj
      refine Ev.step (fun k => by unfold spec_l2Kid.l0; rfl) (ev_neg (by omega) (ev_eq ?_))
      rw [kidsFrom_end t i j (by omega)]; rfl
    | succ d ih =>
      intro j hd hj
      have hj' : j < t.length := by omega
      refine Ev.step (fun k => by unfold spec_l2Kid.l0; rfl) (ev_pos (by omega) (ev_pos (by omega) ?_))
      rw [rd_nd' hj', inc (by omega), kidsFrom_step t i j hj']
      by_cases hc : par t j = (i : Int)
      · rw [if_pos hc, List.find?_cons]
        refine ev_pos hc ?_
        by_cases hx : (t.getD j zND).f0 = x
        · rw [decide_eq_true hx]; exact ev_pos hx (ev_eq rfl)
        · rw [decide_eq_false hx]; exact ev_neg hx (ih (j + 1) (by omega) (by omega))
      · rw [if_neg hc]
        exact ev_neg hc (ih (j + 1) (by omega) (by omega))
  exact key _ (i + 1) rfl (by omega)
theorem GOk.inj {t : List ND} {P : List Wd} (h : GOk t P) {c c' : Nat} (hc : c < t.length) (hc' : c' < t.length) (hP : P.getD c [] = P.getD c' []) : c = c' := by
  have hl := h.plen
  have hcl : c < P.length := by rw [hl]; exact hc
  have hcl' : c' < P.length := by rw [hl]; exact hc'
  rw [List.getD_eq_getElem?_getD, List.getD_eq_getElem?_getD, List.getElem?_eq_getElem hcl, List.getElem?_eq_getElem hcl', Option.getD_some, Option.getD_some] at hP
  rcases Nat.lt_trichotomy c c' with hlt | he | hlt
  · exact absurd hP ((List.pairwise_iff_getElem.1 h.nod) c c' hcl hcl' hlt)
  · exact he
  · exact absurd hP.symm ((List.pairwise_iff_getElem.1 h.nod) c' c hcl' hcl hlt)
theorem GOk.kid_word {t : List ND} {P : List Wd} (h : GOk t P) {i c : Nat} (hc : c ∈ kids t i) : P.getD c [] = P.getD i [] ++ [letterB (t.getD c zND).f0] ∧ 0 ≤ (t.getD c zND).f0 ∧ (t.getD c zND).f0 ≤ 25 := by
  have g := kids_gt h hc
  have p := (mem_kids.1 hc).2
  have s := (prefP_spec h.pre).2.2.2.2 c (by omega) g.2
  unfold par at p
  rw [getD_nd g.2] at p ⊢
  rw [p, Int.toNat_natCast] at s
  exact ⟨s.2.2.2.2, s.2.2.1, s.2.2.2.1⟩
theorem kidAt_some {t : List ND} {i : Nat} {x : Int} {c : Nat} (h : (kids t i).find? (fun c => (t.getD c zND).f0 = x) = some c) : kidAt t i x = c ∧ c ∈ kids t i ∧ (t.getD c zND).f0 = x := by
  refine ⟨by unfold kidAt; rw [h]; rfl, List.mem_of_find?_eq_some h, ?_⟩
  have := List.find?_some h
  simpa using this
theorem letterB_nat {x : Int} (hx : 0 ≤ x ∧ x ≤ 25) : ((letterB x).toNat : Int) = 97 + x := by
  unfold letterB
  rw [UInt8.toNat_ofNat']
  omega
/-- Each beginning but the empty one has that without its last letter. -/
theorem GOk.up {t : List ND} {P : List Wd} (h : GOk t P) {p : Wd} {b : UInt8} (hp : p ++ [b] ∈ P) : ∃ i c, i < t.length ∧ c ∈ kids t i ∧ P.getD i [] = p ∧ P.getD c [] = p ++ [b] ∧ letterB (t.getD c zND).f0 = b := by
  obtain ⟨c, hc, e⟩ := List.getElem_of_mem hp
  have hct : c < t.length := by rw [← h.plen]; exact hc
  have e' : P.getD c [] = p ++ [b] := by rw [List.getD_eq_getElem?_getD, List.getElem?_eq_getElem hc, Option.getD_some, e]
  have h0 : 0 < c := by
    rcases Nat.eq_zero_or_pos c with rfl | h0
    · rw [(prefP_spec h.pre).2.2.2.1] at e'
      have := congrArg List.length e'
      simp at this
    · exact h0
  have hr := h.par_lt hct h0
  have hk : c ∈ kids t (par t c).toNat := mem_kids.2 ⟨hct, by omega⟩
  have w := h.kid_word hk
  rw [e'] at w
  have w1 := List.append_inj' w.1 rfl
  exact ⟨(par t c).toNat, c, by omega, hk, w1.1.symm, e', by have := w1.2; simp at this; exact this.symm⟩
theorem GOk.mem {t : List ND} {P : List Wd} (h : GOk t P) {i : Nat} (hi : i < t.length) : P.getD i [] ∈ P := by
  rw [List.getD_eq_getElem?_getD, List.getElem?_eq_getElem (by rw [h.plen]; exact hi)]
  exact List.getElem_mem _
/-- With a beginning all its beginnings are there. -/
theorem GOk.take_mem {t : List ND} {P : List Wd} (h : GOk t P) {w : Wd} (hw : w ∈ P) : ∀ n, n ≤ w.length → w.take (w.length - n) ∈ P
  | 0, _ => by rw [Nat.sub_zero, List.take_length]; exact hw
  | n + 1, hn => by
    have ih := h.take_mem hw n (by omega)
    rw [show w.length - n = (w.length - (n + 1)) + 1 by omega, List.take_succ_eq_append_getElem (by omega)] at ih
    obtain ⟨i, c, hi, _, e, _⟩ := h.up ih
    rw [← e]
    exact h.mem hi
theorem l2Node_at {t : List ND} {P : List Wd} (h : GOk t P) (s : ByteArray) (hs : s.size ≤ 1000000000) : ∃ r, Ev (fun k => spec_l2Node.f k t s) r ∧ ((∃ i : Nat, r = i ∧ i < t.length ∧ P.getD i [] = bw s) ∨ (r = -1 ∧ bw s ∉ P)) := by
  have hl := h.len
  have hsz : (bw s).length = s.size := bw_size s
  have key : ∀ m j i, s.size - j = m → j ≤ s.size → i < t.length → P.getD i [] = (bw s).take j → ∃ r, Ev (fun k => spec_l2Node.l0 k s i (j : Nat) t) r ∧ ((∃ i : Nat, r = i ∧ i < t.length ∧ P.getD i [] = bw s) ∨ (r = -1 ∧ bw s ∉ P)) := by
    intro m
    induction m with
    | zero =>
      intro j i hm hj hi hP
      rw [List.take_of_length_le (by omega)] at hP
      exact ⟨i, Ev.step (fun k => by unfold spec_l2Node.l0; rfl) (ev_neg (by omega) (ev_eq rfl)), .inl ⟨i, rfl, hi, hP⟩⟩
    | succ m ih =>
      intro j i hm hj hi hP
      have hj' : j < (bw s).length := by omega
      have hb := bt_bw (s := s) (i := j) (by omega)
      have htk := List.take_succ_eq_append_getElem hj'
      generalize hbb : (bw s)[j] = b at hb htk
      have hbn := b.toNat_lt
      have step : ∀ r, Ev (fun k => spec_l2Node.l0 k s (kidAt t i ((b.toNat : Int) - 97)) ((j + 1 : Nat) : Int) t) r → Ev (fun k => spec_l2Node.l0 k s i (j : Nat) t) r := by
        intro r hr
        refine Ev.step (fun k => by unfold spec_l2Node.l0; rfl) (ev_pos (by omega) (ev_pos (by omega) (ev_pos (by omega) ?_)))
        rw [hb, inc (by omega), w64 (x := (b.toNat : Int)) (by omega) (by omega), w64 (x := (b.toNat : Int) - 97) (by omega) (by omega)]
        exact Ev.bind (l2Kid_ev h hi _) hr
      cases hf : (kids t i).find? (fun c => (t.getD c zND).f0 = (b.toNat : Int) - 97) with
      | some c =>
        obtain ⟨e1, hc, e2⟩ := kidAt_some hf
        have hg := kids_gt h hc
        have hw := h.kid_word hc
        rw [hP] at hw
        have eb : letterB (t.getD c zND).f0 = b := UInt8.toNat.inj (by have := letterB_nat hw.2; omega)
        obtain ⟨r, h1, h2⟩ := ih (j + 1) c (by omega) (by omega) hg.2 (by rw [hw.1, eb, htk])
        rw [e1] at step
        exact ⟨r, step r h1, h2⟩
      | none =>
        have e1 : kidAt t i ((b.toNat : Int) - 97) = -1 := by unfold kidAt; rw [hf]; rfl
        rw [e1] at step
        refine ⟨-1, step (-1) ?_, .inr ⟨rfl, fun hmem => ?_⟩⟩
        · by_cases hlast : ((j + 1 : Nat) : Int) < (s.size : Int)
          · exact Ev.step (fun k => by unfold spec_l2Node.l0; rfl) (ev_pos hlast (ev_neg (by decide) (ev_eq rfl)))
          · exact Ev.step (fun k => by unfold spec_l2Node.l0; rfl) (ev_neg hlast (ev_eq rfl))
        · exfalso
          have hpre := h.take_mem hmem ((bw s).length - (j + 1)) (by omega)
          rw [show (bw s).length - ((bw s).length - (j + 1)) = j + 1 by omega, htk] at hpre
          obtain ⟨i', c, hi', hc, f1, f2, f3⟩ := h.up hpre
          have : i' = i := h.inj hi' hi (by rw [f1, hP])
          subst this
          have hw := (h.kid_word hc).2
          have hn := letterB_nat hw
          rw [f3] at hn
          have := List.find?_eq_none.1 hf c hc
          simp only [decide_eq_true_eq] at this
          omega
  unfold spec_l2Node.f
  exact key _ 0 0 rfl (Nat.zero_le _) h.one (prefP_spec h.pre).2.2.2.1
end Go.Proofs.YtcplbbflfgckbaaGreatDoor.Pl

