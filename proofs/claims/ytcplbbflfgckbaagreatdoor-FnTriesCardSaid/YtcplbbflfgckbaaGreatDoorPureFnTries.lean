/- Plain: a full trie drawn, and two tries drawn. -/
import Derived.Test.YtcplbbflfgckbaaGreatDoorX20
import Derived.Test.YtcplbbflfgckbaaGreatDoorTrim
import Derived.Test.YtcplbbflfgckbaaGreatDoorWords
import Derived.Test.YtcplbbflfgckbaaGreatDoorX5
import Derived.Test.YtcplbbflfgckbaaGreatDoorX24
import Derived.Test.YtcplbbflfgckbaaGreatDoorX9
import Derived.Test.YtcplbbflfgckbaaGreatDoorX12
import Derived.Test.YtcplbbflfgckbaaGreatDoorX25
set_option linter.unusedVariables false
set_option linter.unusedSimpArgs false
namespace Go.Proofs.YtcplbbflfgckbaaGreatDoor.Pl
open Go.RowKit Go.Proofs.YtcplbbflfgckbaaGreatDoorW.PrintWords Go.Proofs.YtcplbbflfgckbaaGreatDoorW.PrintLast Go.Proofs.YtcplbbflfgckbaaGreatDoorW.PrintMore Go.Proofs.YtcplbbflfgckbaaGreatDoor.X

theorem full_dr {l : List Int} (hl : isCodeB l) {n : Nat} {a s : Int} (h : At n a) (hn : n ≤ 700000) : Dr (fun k => spec_l1Cur_full.f k l a s) (n + 2) (fun t => t.length ≤ 482) := by
  unfold spec_l1Cur_full.f
  refine Dr.bind (pick_dr hl h (by omega) 2) fun c a1 s1 g1 hc => ?_
  dsimp only
  have hc2 := hc.2 (by omega)
  rw [w64 (by omega) (by omega)]
  obtain ⟨m, hm⟩ : ∃ m : Nat, 39 + c = m := ⟨(39 + c).toNat, by omega⟩
  rw [hm]
  have hm2 : m ≤ 40 := by omega
  have key : ∀ d i, m - i = d → i ≤ m → ∀ A : List Wd, A.length ≤ i → (∀ w ∈ A, w.length ≤ 2) → Dr (fun k => spec_l1Cur_full.l0 k (A.map wb) (m : Nat) (i : Nat) l a1 s1) (n + 2) (fun t => t.length ≤ 482) := by
    intro d
    induction d with
    | zero =>
      intro i hd hi A hA hw
      refine Dr.step (fun k => by unfold spec_l1Cur_full.l0; rfl) (Dr.neg (by omega) (Dr.ev (l2Of_ev A (by omega) (fun w hx => by have := hw w hx; omega)) (Dr.ret g1 ?_)))
      rw [trie_length]
      have := prefs_length hw
      omega
    | succ d ih =>
      intro i hd hi A hA hw
      refine Dr.step (fun k => by unfold spec_l1Cur_full.l0; rfl) (Dr.pos (by omega) ?_)
      generalize hst : strOfNums _ = x
      have hx : x.size = 2 := by rw [← hst]; rfl
      have hp := l2Put_ev (A.map wb) x (by rw [List.length_map]; omega) (fun y hy => by
        obtain ⟨v, hv, rfl⟩ := List.mem_map.1 hy
        have := hw v hv
        rw [wb_size]; omega) (by omega)
      rw [bw_map_wb] at hp
      refine Dr.ev hp ?_
      rw [inc (by omega)]
      refine ih (i + 1) (by omega) (by omega) _ (by have := ins_length A (bw x); omega) (fun w hx2 => ?_)
      rcases (mem_ins _ _ _).1 hx2 with rfl | hx2
      · rw [bw_size]; omega
      · exact hw w hx2
  exact key _ 0 rfl (Nat.zero_le _) [] (Nat.zero_le _) (fun w hx => by cases hx)
end Go.Proofs.YtcplbbflfgckbaaGreatDoor.Pl
set_option linter.unusedVariables false
set_option linter.unusedSimpArgs false
namespace Go.Proofs.YtcplbbflfgckbaaGreatDoor.Pl
open Go.RowKit Go.Proofs.YtcplbbflfgckbaaGreatDoorW.PrintWords Go.Proofs.YtcplbbflfgckbaaGreatDoorW.PrintLast Go.Proofs.YtcplbbflfgckbaaGreatDoorW.PrintMore Go.Proofs.YtcplbbflfgckbaaGreatDoor.X

/-- The parent of a node. -/
def par (t : List ND) (i : Nat) : Int := (t.getD i zND).f1
theorem getD_nd {t : List ND} {i : Nat} (h : i < t.length) : t.getD i zND = t[i] := by
  rw [List.getD_eq_getElem?_getD, List.getElem?_eq_getElem h]; rfl
theorem rd_nd' {t : List ND} {i : Nat} (h : i < t.length) : rd_T74 t (i : Int) = t.getD i zND := by rw [rd_nd h, getD_nd h]
/-- What is known of a trie that a game is played on. -/
structure GOk (t : List ND) (P : List Wd) : Prop extends TOk t P where
  root : par t 0 = -1
  nod : P.Nodup
theorem gok_trie {ws : List Wd} (h2 : ∀ w ∈ ws, okW w) (h3 : ws.length ≤ 40) : GOk (trie ws) (prefs ws) := by
  refine ⟨⟨prefP_trie h2 h3, fun p hp => (prefs_okW h2 hp).1⟩, ?_, (prefs_SS ws).nodup⟩
  obtain ⟨l, hl⟩ := prefs_head ws
  unfold par trie
  rw [hl]
  rfl
section
variable {t : List ND} {P : List Wd} (h : GOk t P)
include h
theorem GOk.one : 1 ≤ t.length := (prefP_spec h.pre).1
theorem GOk.len : t.length ≤ 481 := (prefP_spec h.pre).2.1
theorem GOk.plen : P.length = t.length := (prefP_spec h.pre).2.2.1
theorem GOk.par_lt {i : Nat} (hi : i < t.length) (h0 : 0 < i) : 0 ≤ par t i ∧ par t i < (i : Int) := by
  have := (prefP_spec h.pre).2.2.2.2 i h0 hi
  unfold par
  rw [getD_nd hi]
  exact ⟨this.1, this.2.1⟩
theorem GOk.par_lt' {i : Nat} (hi : i < t.length) : -1 ≤ par t i ∧ par t i < (i : Int) := by
  by_cases h0 : 0 < i
  · have := h.par_lt hi h0; omega
  · obtain rfl : i = 0 := by omega
    rw [h.root]; omega
theorem GOk.short' {i : Nat} (hi : i < t.length) : (P.getD i []).length ≤ 12 := by
  refine h.short _ ?_
  rw [List.getD_eq_getElem?_getD, List.getElem?_eq_getElem (by rw [h.plen]; exact hi)]
  exact List.getElem_mem _
end
/-- The kids of a node, from a place on. -/
def kidsFrom (t : List ND) (i : Nat) (j : Nat) : List Nat := (List.range' j (t.length - j)).filter fun c => par t c = (i : Int)
def kids (t : List ND) (i : Nat) : List Nat := kidsFrom t i 0
theorem kidsFrom_step (t : List ND) (i j : Nat) (h : j < t.length) : kidsFrom t i j = if par t j = (i : Int) then j :: kidsFrom t i (j + 1) else kidsFrom t i (j + 1) := by
  unfold kidsFrom
  rw [show t.length - j = (t.length - (j + 1)) + 1 by omega, List.range'_succ, List.filter_cons]
  by_cases hc : par t j = (i : Int)
  · rw [if_pos (by simpa using hc), if_pos hc]
  · rw [if_neg (by simpa using hc), if_neg hc]
theorem kidsFrom_end (t : List ND) (i j : Nat) (h : t.length ≤ j) : kidsFrom t i j = [] := by
  unfold kidsFrom
  rw [show t.length - j = 0 by omega]; rfl
theorem kidsFrom_skip {t : List ND} {P : List Wd} (h : GOk t P) (i : Nat) : ∀ j, j ≤ i + 1 → kidsFrom t i 0 = kidsFrom t i j
  | 0, _ => rfl
  | j + 1, hj => by
    rw [kidsFrom_skip h i j (by omega)]
    by_cases hl : j < t.length
    · rw [kidsFrom_step t i j hl, if_neg (by have := h.par_lt' hl; omega)]
    · rw [kidsFrom_end t i j (by omega), kidsFrom_end t i (j + 1) (by omega)]
theorem mem_kids {t : List ND} {i c : Nat} : c ∈ kids t i ↔ c < t.length ∧ par t c = (i : Int) := by
  unfold kids kidsFrom
  simp only [List.mem_filter, List.mem_range'_1, decide_eq_true_eq]
  omega
theorem kids_gt {t : List ND} {P : List Wd} (h : GOk t P) {i c : Nat} (hc : c ∈ kids t i) : i < c ∧ c < t.length := by
  obtain ⟨h1, h2⟩ := mem_kids.1 hc
  have := h.par_lt' h1
  omega
theorem kids_length (t : List ND) (i : Nat) : (kids t i).length ≤ t.length := by
  unfold kids kidsFrom
  exact Nat.le_trans (List.length_filter_le _ _) (by simp)
def ints (l : List Nat) : List Int := l.map fun c : Nat => (c : Int)
theorem ints_length (l : List Nat) : (ints l).length = l.length := List.length_map _
theorem rd_ints {l : List Nat} {i : Nat} (h : i < l.length) : rd (ints l) (i : Int) = (l.getD i 0 : Nat) := by
  rw [rd_nat]; unfold ints
  rw [List.getD_eq_getElem?_getD, List.getElem?_map, List.getElem?_eq_getElem h, List.getD_eq_getElem?_getD, List.getElem?_eq_getElem h]; rfl
end Go.Proofs.YtcplbbflfgckbaaGreatDoor.Pl
set_option linter.unusedVariables false
set_option linter.unusedSimpArgs false
namespace Go.Proofs.YtcplbbflfgckbaaGreatDoor.Pl
open Go.RowKit Go.Proofs.YtcplbbflfgckbaaGreatDoorW.PrintWords Go.Proofs.YtcplbbflfgckbaaGreatDoorW.PrintLast Go.Proofs.YtcplbbflfgckbaaGreatDoorW.PrintMore Go.Proofs.YtcplbbflfgckbaaGreatDoor.X

theorem l2Kids_ev {t : List ND} {P : List Wd} (h : GOk t P) {i : Nat} (hi : i < t.length) : Ev (fun k => spec_l2Kids.f k t i) (ints (kids t i)) := by
  have hl := h.len
  unfold spec_l2Kids.f
  rw [inc (by omega)]
  have key : ∀ d j (acc : List Int), t.length - j = d → j ≤ t.length → acc.length ≤ j → Ev (fun k => spec_l2Kids.l0 k i acc (j : Nat) t) (acc ++ ints (kidsFrom t i j)) := by
    intro d
    induction d with
    | zero =>
      intro j acc hd hj ha
      refine Ev.step (fun k => by unfold spec_l2Kids.l0; rfl) (ev_neg (by omega) (ev_eq ?_))
      rw [kidsFrom_end t i j (by omega)]; simp [ints]
    | succ d ih =>
      intro j acc hd hj ha
      have hj' : j < t.length := by omega
      refine Ev.step (fun k => by unfold spec_l2Kids.l0; rfl) (ev_pos (by omega) (ev_pos (by omega) ?_))
      rw [rd_nd' hj', inc (by omega), kidsFrom_step t i j hj']
      by_cases hc : par t j = (i : Int)
      · rw [if_pos hc]
        refine ev_pos hc (ev_pos (by omega) ?_)
        have := ih (j + 1) (acc ++ [(j : Int)]) (by omega) (by omega) (by rw [List.length_append]; simp; omega)
        rw [List.append_assoc] at this
        exact this
      · rw [if_neg hc]
        exact ev_neg hc (ih (j + 1) acc (by omega) (by omega) (by omega))
  have := key _ (i + 1) [] rfl (by omega) (by simp)
  rw [← kidsFrom_skip h i (i + 1) (Nat.le_refl _)] at this
  exact this
theorem kids_ev {t : List ND} (hl : t.length ≤ 2000000) (i : Nat) : Ev (fun k => impl_Trie_kids.f k t i) (ints (kids t i)) := by
  unfold impl_Trie_kids.f
  have key : ∀ d j (acc : List Int), t.length - j = d → j ≤ t.length → acc.length ≤ j → Ev (fun k => impl_Trie_kids.l0 k i acc t (t.length : Int) (j : Nat)) (acc ++ ints (kidsFrom t i j)) := by
    intro d
    induction d with
    | zero =>
      intro j acc hd hj ha
      refine Ev.step (fun k => by unfold impl_Trie_kids.l0; rfl) (ev_neg (by omega) (ev_eq ?_))
      rw [kidsFrom_end t i j (by omega)]; simp [ints]
    | succ d ih =>
      intro j acc hd hj ha
      have hj' : j < t.length := by omega
      refine Ev.step (fun k => by unfold impl_Trie_kids.l0; rfl) (ev_pos (by omega) (ev_pos (by omega) (ev_pos (by omega) ?_)))
      rw [rd_nd' hj', inc (by omega), kidsFrom_step t i j hj']
      by_cases hc : par t j = (i : Int)
      · rw [if_pos hc]
        refine ev_pos hc (ev_pos (by omega) ?_)
        have := ih (j + 1) (acc ++ [(j : Int)]) (by omega) (by omega) (by rw [List.length_append]; simp; omega)
        rw [List.append_assoc] at this
        exact this
      · rw [if_neg hc]
        exact ev_neg hc (ih (j + 1) acc (by omega) (by omega) (by omega))
  have := key _ 0 [] rfl (by omega) (by simp)
  exact this
end Go.Proofs.YtcplbbflfgckbaaGreatDoor.Pl
set_option linter.unusedVariables false
set_option linter.unusedSimpArgs false
namespace Go.Proofs.YtcplbbflfgckbaaGreatDoor.Pl
open Go.RowKit Go.Proofs.YtcplbbflfgckbaaGreatDoorW.PrintWords Go.Proofs.YtcplbbflfgckbaaGreatDoorW.PrintLast Go.Proofs.YtcplbbflfgckbaaGreatDoorW.PrintMore Go.Proofs.YtcplbbflfgckbaaGreatDoor.X

theorem GOk.inj {t : List ND} {P : List Wd} (h : GOk t P) {c c' : Nat} (hc : c < t.length) (hc' : c' < t.length) (hP : P.getD c [] = P.getD c' []) : c = c' := by
  have hl := h.plen
  have hcl : c < P.length := by rw [hl]; exact hc
  have hcl' : c' < P.length := by rw [hl]; exact hc'
  rw [List.getD_eq_getElem?_getD, List.getD_eq_getElem?_getD, List.getElem?_eq_getElem hcl, List.getElem?_eq_getElem hcl', Option.getD_some, Option.getD_some] at hP
  rcases Nat.lt_trichotomy c c' with hlt | he | hlt
  · exact absurd hP ((List.pairwise_iff_getElem.1 h.nod) c c' hcl hcl' hlt)
  · exact he
  · exact absurd hP.symm ((List.pairwise_iff_getElem.1 h.nod) c' c hcl' hcl hlt)
theorem GOk.kid_word {t : List ND} {P : List Wd} (h : GOk t P) {i c : Nat} (hc : c ∈ kids t i) : P.getD c [] = P.getD i [] ++ [letterB (t.getD c zND).f0] ∧ 0 ≤ (t.getD c zND).f0 ∧ (t.getD c zND).f0 ≤ 25 := by
  have g := kids_gt h hc
  have p := (mem_kids.1 hc).2
  have s := (prefP_spec h.pre).2.2.2.2 c (by omega) g.2
  unfold par at p
  rw [getD_nd g.2] at p ⊢
  rw [p, Int.toNat_natCast] at s
  exact ⟨s.2.2.2.2, s.2.2.1, s.2.2.2.1⟩
theorem letterB_nat {x : Int} (hx : 0 ≤ x ∧ x ≤ 25) : ((letterB x).toNat : Int) = 97 + x := by
  unfold letterB
  rw [UInt8.toNat_ofNat']
  omega
/-- Each beginning but the empty one has that without its last letter. -/
theorem GOk.up {t : List ND} {P : List Wd} (h : GOk t P) {p : Wd} {b : UInt8} (hp : p ++ [b] ∈ P) : ∃ i c, i < t.length ∧ c ∈ kids t i ∧ P.getD i [] = p ∧ P.getD c [] = p ++ [b] ∧ letterB (t.getD c zND).f0 = b := by
  obtain ⟨c, hc, e⟩ := List.getElem_of_mem hp
  have hct : c < t.length := by rw [← h.plen]; exact hc
  have e' : P.getD c [] = p ++ [b] := by rw [List.getD_eq_getElem?_getD, List.getElem?_eq_getElem hc, Option.getD_some, e]
  have h0 : 0 < c := by
    rcases Nat.eq_zero_or_pos c with rfl | h0
    · rw [(prefP_spec h.pre).2.2.2.1] at e'
      have := congrArg List.length e'
      simp at this
    · exact h0
  have hr := h.par_lt hct h0
  have hk : c ∈ kids t (par t c).toNat := mem_kids.2 ⟨hct, by omega⟩
  have w := h.kid_word hk
  rw [e'] at w
  have w1 := List.append_inj' w.1 rfl
  exact ⟨(par t c).toNat, c, by omega, hk, w1.1.symm, e', by have := w1.2; simp at this; exact this.symm⟩
theorem GOk.mem {t : List ND} {P : List Wd} (h : GOk t P) {i : Nat} (hi : i < t.length) : P.getD i [] ∈ P := by
  rw [List.getD_eq_getElem?_getD, List.getElem?_eq_getElem (by rw [h.plen]; exact hi)]
  exact List.getElem_mem _
end Go.Proofs.YtcplbbflfgckbaaGreatDoor.Pl
set_option linter.unusedVariables false
set_option linter.unusedSimpArgs false
namespace Go.Proofs.YtcplbbflfgckbaaGreatDoor.Pl
open Go.RowKit Go.Proofs.YtcplbbflfgckbaaGreatDoorW.PrintWords Go.Proofs.YtcplbbflfgckbaaGreatDoorW.PrintLast Go.Proofs.YtcplbbflfgckbaaGreatDoorW.PrintMore Go.Proofs.YtcplbbflfgckbaaGreatDoor.X
variable {ws : List Wd}
def ind (p : Prop) [Decidable p] : Nat := if p then 1 else 0
theorem ind_sum {L : List Nat} (hn : L.Nodup) (f : Nat → Prop) [DecidablePred f] {c : Nat} (hc : c ∈ L) (h : ∀ x ∈ L, f x ↔ x = c) : (L.map fun x => ind (f x)).sum = 1 := by
  have zero : ∀ M : List Nat, (∀ x ∈ M, ¬ f x) → (M.map fun x => ind (f x)).sum = 0 := by
    intro M
    induction M with
    | nil => exact fun _ => rfl
    | cons y M ih =>
      intro hM
      rw [List.map_cons, List.sum_cons, ih (fun x hx => hM x (List.mem_cons_of_mem _ hx))]
      unfold ind
      rw [if_neg (hM y List.mem_cons_self)]
  induction L with
  | nil => cases hc
  | cons y L ih =>
    rw [List.map_cons, List.sum_cons]
    rw [List.nodup_cons] at hn
    by_cases hy : y = c
    · subst hy
      rw [zero L (fun x hx hf => hn.1 (by have := (h x (List.mem_cons_of_mem _ hx)).1 hf; rwa [this] at hx))]
      unfold ind
      rw [if_pos ((h y List.mem_cons_self).2 rfl)]
    · rw [ih hn.2 ((List.mem_cons.1 hc).resolve_left (fun e => hy e.symm)) (fun x hx => h x (List.mem_cons_of_mem _ hx))]
      unfold ind
      rw [if_neg (fun hf => hy ((h y List.mem_cons_self).1 hf))]
theorem zero_sum {L : List Nat} (f : Nat → Prop) [DecidablePred f] (h : ∀ x ∈ L, ¬ f x) : (L.map fun x => ind (f x)).sum = 0 := by
  induction L with
  | nil => rfl
  | cons y L ih =>
    rw [List.map_cons, List.sum_cons, ih (fun x hx => h x (List.mem_cons_of_mem _ hx))]
    unfold ind
    rw [if_neg (h y List.mem_cons_self)]
theorem kids_nodup (t : List ND) (i : Nat) : (kids t i).Nodup := (List.nodup_range' ..).filter _
theorem one_word (h : WOk ws) {i : Nat} (hi : i < (trie ws).length) {x : Wd} (hx : x ∈ ws) :
    ind ((prefs ws).getD i [] <+: x) = ind (x = (prefs ws).getD i []) + ((kids (trie ws) i).map fun c => ind ((prefs ws).getD c [] <+: x)).sum := by
  have hg := (gok_trie h.ok h.le)
  have kw := fun {c} (hc : c ∈ kids (trie ws) i) => (hg.kid_word hc).1
  by_cases hp : (prefs ws).getD i [] <+: x
  · by_cases he : x = (prefs ws).getD i []
    · rw [zero_sum _ (fun c hc hf => by
        have := hf.length_le
        rw [kw hc, List.length_append, ← he] at this
        simp only [List.length_cons, List.length_nil] at this
        omega)]
      unfold ind
      rw [if_pos hp, if_pos he]
    · obtain ⟨r, hr⟩ := hp
      cases r with
      | nil => exact absurd (by rw [← hr, List.append_nil]) he
      | cons b r =>
        have hmem : (prefs ws).getD i [] ++ [b] ∈ prefs ws := (mem_prefs ws _).2 (.inr ⟨x, hx, ⟨r, by rw [← hr]; simp⟩⟩)
        obtain ⟨i', c, hi', hc, e1, e2, _⟩ := hg.up hmem
        have : i' = i := hg.inj hi' hi e1
        subst this
        have hs : ((kids (trie ws) i').map fun c => ind ((prefs ws).getD c [] <+: x)).sum = 1 := by
          refine ind_sum (kids_nodup _ _) (fun c => (prefs ws).getD c [] <+: x) hc (fun c' hc' => ⟨fun hf => ?_, fun e => ?_⟩)
          · rw [kw hc', ← hr, List.prefix_append_right_inj, List.cons_prefix_cons] at hf
            refine hg.inj (kids_gt hg hc').2 (kids_gt hg hc).2 ?_
            rw [kw hc', e2, hf.1]
          · rw [e, e2, ← hr]
            exact ⟨r, by simp⟩
        rw [hs]
        unfold ind
        rw [if_pos ⟨b :: r, hr⟩, if_neg he]
  · rw [zero_sum _ (fun c hc hf => hp ((show (prefs ws).getD i [] <+: (prefs ws).getD c [] from by rw [kw hc]; exact List.prefix_append _ _).trans hf))]
    unfold ind
    rw [if_neg hp, if_neg (fun e => hp (by rw [e]; exact List.prefix_refl _))]
theorem under_count (L : List Wd) (p : Wd) : (underL L p).length = (L.map fun x => ind (p <+: x)).sum := by
  induction L with
  | nil => rfl
  | cons x L ih =>
    rw [List.map_cons, List.sum_cons, ← ih]
    by_cases h : p <+: x
    · have e : underL (x :: L) p = x :: underL L p := List.filter_cons_of_pos (p := fun w => p.isPrefixOf w) (List.isPrefixOf_iff_prefix.2 h)
      have e2 : ind (p <+: x) = 1 := if_pos h
      rw [e, e2, List.length_cons, Nat.add_comm]
    · have e : underL (x :: L) p = underL L p := List.filter_cons_of_neg (p := fun w => p.isPrefixOf w) (fun e => h (List.isPrefixOf_iff_prefix.1 e))
      have e2 : ind (p <+: x) = 0 := if_neg h
      rw [e, e2, Nat.zero_add]
theorem under_kids (h : WOk ws) {i : Nat} (hi : i < (trie ws).length) :
    (underL ws ((prefs ws).getD i [])).length = ind ((prefs ws).getD i [] ∈ ws) + ((kids (trie ws) i).map fun c => (underL ws ((prefs ws).getD c [])).length).sum := by
  have key : ∀ L : List Wd, (∀ x ∈ L, x ∈ ws) → L.Nodup → (L.map fun x => ind ((prefs ws).getD i [] <+: x)).sum = ind ((prefs ws).getD i [] ∈ L) + ((kids (trie ws) i).map fun c => (L.map fun x => ind ((prefs ws).getD c [] <+: x)).sum).sum := by
    intro L
    induction L with
    | nil =>
      intro _ _
      have z : ∀ K : List Nat, (K.map fun c => (([] : List Wd).map fun x => ind ((prefs ws).getD c [] <+: x)).sum).sum = 0 := fun K => by
        induction K with
        | nil => rfl
        | cons c K ihK => rw [List.map_cons, List.sum_cons, ihK]; rfl
      rw [z]
      unfold ind
      simp
    | cons x L ih =>
      intro hL hn
      rw [List.nodup_cons] at hn
      have e := one_word h hi (hL x List.mem_cons_self)
      have e2 := ih (fun y hy => hL y (List.mem_cons_of_mem _ hy)) hn.2
      have e3 : ((kids (trie ws) i).map fun c => ((x :: L).map fun x => ind ((prefs ws).getD c [] <+: x)).sum).sum = ((kids (trie ws) i).map fun c => ind ((prefs ws).getD c [] <+: x)).sum + ((kids (trie ws) i).map fun c => (L.map fun x => ind ((prefs ws).getD c [] <+: x)).sum).sum := by
        induction kids (trie ws) i with
        | nil => rfl
        | cons c K ihK => simp only [List.map_cons, List.sum_cons] at ihK ⊢; omega
      have e4 : ind ((prefs ws).getD i [] ∈ x :: L) = ind (x = (prefs ws).getD i []) + ind ((prefs ws).getD i [] ∈ L) := by
        unfold ind
        by_cases hxp : x = (prefs ws).getD i []
        · rw [if_pos (by rw [hxp]; exact List.mem_cons_self), if_pos hxp, if_neg (by rw [← hxp]; exact hn.1)]
        · rw [if_neg hxp]
          by_cases hm : (prefs ws).getD i [] ∈ L
          · rw [if_pos hm, if_pos (List.mem_cons_of_mem _ hm)]
          · rw [if_neg hm, if_neg (fun hh => (List.mem_cons.1 hh).elim (fun e => hxp e.symm) hm)]
      rw [List.map_cons, List.sum_cons, e3, e4, e2, e]
      omega
  have := key ws (fun x hx => hx) h.ss.nodup
  rw [under_count, this]
  congr 2
  exact List.map_congr_left (fun c _ => (under_count ws _).symm)
theorem node_end (h : WOk ws) {i : Nat} (hi : i < (trie ws).length) : ((trie ws).getD i zND).f2 = decide ((prefs ws).getD i [] ∈ ws) := by
  have hi' : i < (prefs ws).length := by rw [← trie_length]; exact hi
  rw [List.getD_eq_getElem?_getD, List.getD_eq_getElem?_getD, List.getElem?_eq_getElem hi, List.getElem?_eq_getElem hi', Option.getD_some, Option.getD_some]
  have e : (trie ws)[i] = nodeOf ws (prefs ws) (prefs ws)[i] := List.getElem_map _
  rw [e]
  unfold nodeOf
  split <;> rfl
end Go.Proofs.YtcplbbflfgckbaaGreatDoor.Pl
set_option linter.unusedVariables false
set_option linter.unusedSimpArgs false
namespace Go.Proofs.YtcplbbflfgckbaaGreatDoor.Pl
open Go.RowKit Go.Proofs.YtcplbbflfgckbaaGreatDoorW.PrintWords Go.Proofs.YtcplbbflfgckbaaGreatDoorW.PrintLast Go.Proofs.YtcplbbflfgckbaaGreatDoorW.PrintMore Go.Proofs.YtcplbbflfgckbaaGreatDoor.X

/-- A node's text, as far down as f goes. -/
def textF (t : List ND) : Nat → Nat → Wd
  | 0, _ => []
  | f + 1, i => (if 0 < i then [letterB (t.getD i zND).f0] else []) ++ ((if (t.getD i zND).f2 = true then [46] else []) ++ (if kids t i = [] then [] else 40 :: ((kids t i).flatMap (textF t f) ++ [41])))
/-- A trie's text. -/
def textW (ws : List Wd) : Wd := textF (trie ws) (trie ws).length 0
theorem length_flatMap' {L : List Nat} {f : Nat → Wd} : (L.flatMap f).length = (L.map fun c => (f c).length).sum := by
  induction L with
  | nil => rfl
  | cons c L ih => rw [List.flatMap_cons, List.length_append, List.map_cons, List.sum_cons, ih]
theorem sum_le_sum {L : List Nat} {f g : Nat → Nat} (h : ∀ c ∈ L, f c ≤ g c) : (L.map f).sum ≤ (L.map g).sum := by
  induction L with
  | nil => exact Nat.le_refl _
  | cons c L ih =>
    rw [List.map_cons, List.sum_cons, List.map_cons, List.sum_cons]
    have := h c List.mem_cons_self
    have := ih (fun c hc => h c (List.mem_cons_of_mem _ hc))
    omega
theorem sum_mul {L : List Nat} {f : Nat → Nat} (n : Nat) : (L.map fun c => f c * n).sum = (L.map f).sum * n := by
  induction L with
  | nil => simp
  | cons c L ih => simp only [List.map_cons, List.sum_cons, ih]; rw [Nat.add_mul]
section
variable {ws : List Wd} (h : WOk ws)
include h
theorem under_pos {i : Nat} (hi : i < (trie ws).length) (h0 : 0 < i) : 1 ≤ (underL ws ((prefs ws).getD i [])).length := by
  have hg := gok_trie h.ok h.le
  have hmem := hg.mem hi
  rcases (mem_prefs ws _).1 hmem with he | ⟨x, hx, hxp⟩
  · exfalso
    have h0' : (prefs ws).getD 0 [] = [] := (prefP_spec hg.pre).2.2.2.1
    have := hg.inj hi hg.one (he.trans h0'.symm)
    omega
  · exact List.length_pos_of_mem (mem_under.2 ⟨hx, hxp⟩)
theorem text_len : ∀ f i, i < (trie ws).length → 0 < i → (textF (trie ws) f i).length ≤ (underL ws ((prefs ws).getD i [])).length * (38 - 3 * ((prefs ws).getD i []).length) := by
  have hg := gok_trie h.ok h.le
  intro f
  induction f with
  | zero => intro i _ _; exact Nat.zero_le _
  | succ f ih =>
    intro i hi h0
    have hk := under_kids h hi
    have he := node_end h hi
    have hp := under_pos h hi h0
    have hs := hg.short' hi
    unfold textF
    rw [if_pos h0, he, List.length_append, List.length_append]
    generalize hE : (underL ws ((prefs ws).getD i [])).length = E at hk hp ⊢
    by_cases hn : kids (trie ws) i = []
    · rw [if_pos hn]
      rw [hn] at hk
      simp only [List.map_nil, List.sum_nil, Nat.add_zero] at hk
      have h1 : (if decide ((prefs ws).getD i [] ∈ ws) = true then ([46] : Wd) else []).length ≤ 1 := by split <;> simp
      have : E * 2 ≤ E * (38 - 3 * ((prefs ws).getD i []).length) := Nat.mul_le_mul_left _ (by omega)
      simp only [List.length_cons, List.length_nil]
      omega
    · rw [if_neg hn]
      simp only [List.length_cons, List.length_append, List.length_nil]
      rw [length_flatMap']
      obtain ⟨c0, hc0⟩ := List.exists_mem_of_ne_nil _ hn
      have hkl : ∀ c ∈ kids (trie ws) i, ((prefs ws).getD c []).length = ((prefs ws).getD i []).length + 1 := fun c hc => by
        rw [(hg.kid_word hc).1, List.length_append]; rfl
      have hshort : ((prefs ws).getD i []).length ≤ 11 := by
        have := hkl c0 hc0
        have := hg.short' (kids_gt hg hc0).2
        omega
      have hsum : ((kids (trie ws) i).map fun c => (textF (trie ws) f c).length).sum ≤ ((kids (trie ws) i).map fun c => (underL ws ((prefs ws).getD c [])).length).sum * (35 - 3 * ((prefs ws).getD i []).length) := by
        rw [← sum_mul]
        refine sum_le_sum (fun c hc => ?_)
        have := ih c (kids_gt hg hc).2 (by have := (kids_gt hg hc).1; omega)
        rw [hkl c hc] at this
        refine Nat.le_trans this (Nat.mul_le_mul_left _ (by omega))
      have hS1 : 1 ≤ ((kids (trie ws) i).map fun c => (underL ws ((prefs ws).getD c [])).length).sum := by
        have h1 := under_pos h (kids_gt hg hc0).2 (by have := (kids_gt hg hc0).1; omega)
        have h2 : (underL ws ((prefs ws).getD c0 [])).length ≤ ((kids (trie ws) i).map fun c => (underL ws ((prefs ws).getD c [])).length).sum := by
          have : ∀ L : List Nat, c0 ∈ L → (underL ws ((prefs ws).getD c0 [])).length ≤ (L.map fun c => (underL ws ((prefs ws).getD c [])).length).sum := by
            intro L
            induction L with
            | nil => intro hc; cases hc
            | cons c L ihL =>
              intro hc
              rw [List.map_cons, List.sum_cons]
              rcases List.mem_cons.1 hc with rfl | hc
              · omega
              · have := ihL hc; omega
          exact this _ hc0
        omega
      generalize ((kids (trie ws) i).map fun c => (underL ws ((prefs ws).getD c [])).length).sum = S at hk hsum hS1
      generalize ((kids (trie ws) i).map fun c => (textF (trie ws) f c).length).sum = F at hsum ⊢
      generalize ((prefs ws).getD i []).length = m at hshort hsum ⊢
      have e38 : 38 - 3 * m = (35 - 3 * m) + 3 := by omega
      generalize 35 - 3 * m = n at hsum e38
      rw [e38]
      unfold ind at hk
      by_cases hm : (prefs ws).getD i [] ∈ ws
      · rw [if_pos hm] at hk
        rw [decide_eq_true hm, if_pos rfl]
        simp only [List.length_cons, List.length_nil]
        subst hk
        have e : (1 + S) * (n + 3) = n + 3 + (S * n + S * 3) := by rw [Nat.add_mul, Nat.one_mul, Nat.mul_add]
        rw [e]
        generalize S * n = q at hsum ⊢
        omega
      · rw [if_neg hm] at hk
        rw [decide_eq_false hm, if_neg (by decide)]
        simp only [List.length_nil]
        subst hk
        have e : (0 + S) * (n + 3) = S * n + S * 3 := by rw [Nat.zero_add, Nat.mul_add]
        rw [e]
        generalize S * n = q at hsum ⊢
        omega
theorem textW_len : (textW ws).length ≤ 1443 := by
  have hg := gok_trie h.ok h.le
  have hlen := hg.one
  unfold textW
  obtain ⟨f, hf⟩ : ∃ f, (trie ws).length = f + 1 := ⟨(trie ws).length - 1, by omega⟩
  rw [hf]
  unfold textF
  rw [if_neg (Nat.lt_irrefl 0), List.nil_append, List.length_append]
  have h0' : (prefs ws).getD 0 [] = [] := (prefP_spec hg.pre).2.2.2.1
  have hk := under_kids h hg.one
  have hle := under_length ws ((prefs ws).getD 0 [])
  have hw := h.le
  have h1 : (if ((trie ws).getD 0 zND).f2 = true then ([46] : Wd) else []).length ≤ 1 := by split <;> simp
  by_cases hn : kids (trie ws) 0 = []
  · rw [if_pos hn]; simp only [List.length_nil]; omega
  · rw [if_neg hn]
    simp only [List.length_cons, List.length_append, List.length_nil]
    rw [length_flatMap']
    have hsum : ((kids (trie ws) 0).map fun c => (textF (trie ws) f c).length).sum ≤ ((kids (trie ws) 0).map fun c => (underL ws ((prefs ws).getD c [])).length).sum * 35 := by
      rw [← sum_mul]
      refine sum_le_sum (fun c hc => ?_)
      have := text_len h f c (kids_gt hg hc).2 (by have := (kids_gt hg hc).1; omega)
      rw [(hg.kid_word hc).1, h0'] at this
      rw [(hg.kid_word hc).1, h0']
      exact this
    generalize ((kids (trie ws) 0).map fun c => (underL ws ((prefs ws).getD c [])).length).sum = S at hk hsum
    have hS : S ≤ 40 := by omega
    omega
end
theorem flatMap_eq {L : List Nat} {f g : Nat → Wd} (h : ∀ c ∈ L, f c = g c) : L.flatMap f = L.flatMap g := by
  induction L with
  | nil => rfl
  | cons c L ih => rw [List.flatMap_cons, List.flatMap_cons, h c List.mem_cons_self, ih (fun c hc => h c (List.mem_cons_of_mem _ hc))]
/-- Enough is enough. -/
theorem textF_more {t : List ND} {P : List Wd} (hg : GOk t P) : ∀ d i f g, t.length - i ≤ d → i < t.length → d ≤ f → d ≤ g → textF t f i = textF t g i := by
  intro d
  induction d with
  | zero => intro i f g h1 h2; omega
  | succ d ih =>
    intro i f g h1 h2 h3 h4
    obtain ⟨f, rfl⟩ : ∃ m, f = m + 1 := ⟨f - 1, by omega⟩
    obtain ⟨g, rfl⟩ : ∃ m, g = m + 1 := ⟨g - 1, by omega⟩
    unfold textF
    have e : (kids t i).flatMap (textF t f) = (kids t i).flatMap (textF t g) := by
      refine flatMap_eq (fun c hc => ?_)
      have := kids_gt hg hc
      exact ih c f g (by omega) this.2 (by omega) (by omega)
    rw [e]
/-- A node's text. -/
def textN (t : List ND) (i : Nat) : Wd := textF t t.length i
theorem textN_eq {t : List ND} {P : List Wd} (hg : GOk t P) {i : Nat} (hi : i < t.length) :
    textN t i = (if 0 < i then [letterB (t.getD i zND).f0] else []) ++ ((if (t.getD i zND).f2 = true then [46] else []) ++ (if kids t i = [] then [] else 40 :: ((kids t i).flatMap (textN t) ++ [41]))) := by
  unfold textN
  have h1 := textF_more hg t.length i t.length (t.length + 1) (by omega) hi (Nat.le_refl _) (by omega)
  rw [h1]
  rfl
theorem letter_range {t : List ND} {P : List Wd} (hg : GOk t P) {i : Nat} (hi : i < t.length) (h0 : 0 < i) : 0 ≤ (t.getD i zND).f0 ∧ (t.getD i zND).f0 ≤ 25 := by
  have hp := hg.par_lt hi h0
  have hm : i ∈ kids t (par t i).toNat := mem_kids.2 ⟨hi, by omega⟩
  exact (hg.kid_word hm).2
theorem letter_eq {c : Int} (h1 : 0 ≤ c) (h2 : c ≤ 25) : impl_letter.f c = some (wb [letterB c]) := by
  unfold impl_letter.f
  rw [letter_str h1 h2]
section
variable {ws : List Wd} (h : WOk ws)
include h
theorem textN_len {i : Nat} (hi : i < (trie ws).length) : (textN (trie ws) i).length ≤ 1520 := by
  rcases Nat.eq_zero_or_pos i with rfl | h0
  · have := textW_len h
    unfold textW at this
    unfold textN
    omega
  · have h1 := text_len h (trie ws).length i hi h0
    have h2 := under_length ws ((prefs ws).getD i [])
    have h3 := h.le
    have h4 : (underL ws ((prefs ws).getD i [])).length * (38 - 3 * ((prefs ws).getD i []).length) ≤ 40 * 38 := Nat.mul_le_mul (by omega) (by omega)
    unfold textN
    omega
/-- What a loop over kids writes. -/
theorem kids_text_len {K pre : List Nat} {i : Nat} (hi : i < (trie ws).length) (he : kids (trie ws) i = pre ++ K) : (pre.flatMap (textN (trie ws))).length ≤ 1520 := by
  have h1 := textN_len h hi
  rw [textN_eq (gok_trie h.ok h.le) hi, he, List.flatMap_append] at h1
  by_cases hn : pre ++ K = []
  · rw [(List.append_eq_nil_iff.1 hn).1]; simp
  · rw [if_neg hn] at h1
    simp only [List.length_append, List.length_cons] at h1
    omega
theorem text_i : ∀ d i, (trie ws).length - i ≤ d → i < (trie ws).length → Ev (fun k => impl_Trie_text.f k (trie ws) (i : Int)) (wb (textN (trie ws) i)) := by
  have hg := gok_trie h.ok h.le
  have hlen := hg.len
  intro d
  induction d with
  | zero => intro i h1 h2; omega
  | succ d ih =>
    intro i hd hi
    have htl := textN_len h hi
    have hrd : rd_T74 (trie ws) (i : Int) = (trie ws).getD i zND := rd_nd' hi
    -- behind the sign
    have j1 : ∀ A : Wd, A.length ≤ 2 → Ev (fun k => impl_Trie_text.j1 k (i : Int) (wb A) (trie ws)) (wb (A ++ (if kids (trie ws) i = [] then [] else 40 :: ((kids (trie ws) i).flatMap (textN (trie ws)) ++ [41])))) := by
      intro A hA
      refine Ev.step (fun k => by unfold impl_Trie_text.j1; rfl) (Ev.bind (kids_ev (by omega) i) ?_)
      rw [ints_length]
      by_cases hn : kids (trie ws) i = []
      · rw [if_pos hn, hn, List.append_nil]
        exact ev_pos rfl (ev_eq rfl)
      · rw [if_neg hn]
        have hne : (kids (trie ws) i).length ≠ 0 := fun e => hn (List.length_eq_zero_iff.1 e)
        refine ev_neg (by omega) (ev_pos (by rw [wb_size]; omega) ?_)
        have e40 : wb A ++ (⟨#[40]⟩ : ByteArray) = wb (A ++ [40]) := wb_append A [40]
        rw [e40]
        have loop : ∀ (K pre : List Nat), kids (trie ws) i = pre ++ K → Ev (fun k => impl_Trie_text.l0 k (wb (A ++ [40] ++ pre.flatMap (textN (trie ws)))) (ints (kids (trie ws) i)) (((kids (trie ws) i).length : Nat) : Int) (pre.length : Nat) (trie ws)) (wb (A ++ 40 :: ((kids (trie ws) i).flatMap (textN (trie ws)) ++ [41]))) := by
          intro K
          induction K with
          | nil =>
            intro pre he
            have hl : (kids (trie ws) i).length = pre.length := by rw [he]; simp
            have hpl := kids_text_len h hi he
            refine Ev.step (fun k => by unfold impl_Trie_text.l0; rfl) (ev_neg (by omega) (ev_pos (by rw [wb_size]; simp only [List.length_append, List.length_cons, List.length_nil]; omega) (ev_eq ?_)))
            have e41 : wb (A ++ [40] ++ pre.flatMap (textN (trie ws))) ++ (⟨#[41]⟩ : ByteArray) = wb (A ++ [40] ++ pre.flatMap (textN (trie ws)) ++ [41]) := wb_append _ [41]
            rw [e41, he]
            congr 1
            simp
          | cons c K ihK =>
            intro pre he
            have hl : (kids (trie ws) i).length = pre.length + (K.length + 1) := by rw [he]; simp
            have hc0 : (kids (trie ws) i).getD pre.length 0 = c := by rw [he]; simp [List.getD]
            have hcm : c ∈ kids (trie ws) i := by rw [he]; simp
            have hcg := kids_gt hg hcm
            have hkl := kids_length (trie ws) i
            have hpl := kids_text_len h hi he
            have hcl := textN_len h hcg.2
            refine Ev.step (fun k => by unfold impl_Trie_text.l0; rfl) (ev_pos (by omega) (ev_pos (by omega) (ev_pos (by rw [ints_length]; omega) ?_)))
            rw [rd_ints (by omega), hc0, inc (i := pre.length) (by omega)]
            refine Ev.bind (ih c (by omega) hcg.2) (ev_pos (by rw [wb_size, wb_size]; simp only [List.length_append, List.length_cons, List.length_nil]; omega) ?_)
            rw [wb_append]
            have := ihK (pre ++ [c]) (by rw [he]; simp)
            rw [List.flatMap_append, List.flatMap_cons, List.flatMap_nil, List.append_nil, List.length_append] at this
            rw [List.append_assoc (A ++ [40])]
            exact this
        have := loop _ [] rfl
        simpa using this
    have j0 : ∀ A : Wd, A.length ≤ 1 → Ev (fun k => impl_Trie_text.j0 k (i : Int) (wb A) (trie ws)) (wb (A ++ ((if ((trie ws).getD i zND).f2 = true then [46] else []) ++ (if kids (trie ws) i = [] then [] else 40 :: ((kids (trie ws) i).flatMap (textN (trie ws)) ++ [41]))))) := by
      intro A hA
      refine Ev.step (fun k => by unfold impl_Trie_text.j0; rfl) (ev_pos (by omega) (ev_pos (by omega) ?_))
      rw [hrd]
      by_cases he : ((trie ws).getD i zND).f2 = true
      · rw [if_pos he]
        refine ev_pos he (ev_pos (by rw [wb_size]; omega) ?_)
        have e46 : wb A ++ (⟨#[46]⟩ : ByteArray) = wb (A ++ [46]) := wb_append A [46]
        rw [e46, ← List.append_assoc]
        exact j1 (A ++ [46]) (by simp; omega)
      · rw [if_neg he, List.nil_append]
        exact ev_neg he (j1 A (by omega))
    rw [textN_eq hg hi]
    refine Ev.step (fun k => by unfold impl_Trie_text.f; rfl) ?_
    by_cases h0 : 0 < i
    · have hr := letter_range hg hi h0
      rw [if_pos h0]
      refine ev_pos (by omega) (ev_pos (by omega) (ev_pos (by omega) ?_))
      rw [hrd, letter_eq hr.1 hr.2]
      exact ev_some (j0 [letterB ((trie ws).getD i zND).f0] (by simp))
    · rw [if_neg h0, List.nil_append]
      have := j0 [] (by simp)
      rw [List.nil_append] at this
      exact ev_neg (by omega) this
theorem text_s : ∀ d i, (trie ws).length - i ≤ d → i < (trie ws).length → Ev (fun k => spec_l2Text.f k (trie ws) (i : Int)) (wb (textN (trie ws) i)) := by
  have hg := gok_trie h.ok h.le
  have hlen := hg.len
  intro d
  induction d with
  | zero => intro i h1 h2; omega
  | succ d ih =>
    intro i hd hi
    have htl := textN_len h hi
    have hrd : rd_T74 (trie ws) (i : Int) = (trie ws).getD i zND := rd_nd' hi
    have j1 : ∀ A : Wd, A.length ≤ 2 → Ev (fun k => spec_l2Text.j1 k (wb A) (ints (kids (trie ws) i)) (trie ws)) (wb (A ++ (if kids (trie ws) i = [] then [] else 40 :: ((kids (trie ws) i).flatMap (textN (trie ws)) ++ [41])))) := by
      intro A hA
      refine Ev.step (fun k => by unfold spec_l2Text.j1; rfl) ?_
      rw [ints_length]
      by_cases hn : kids (trie ws) i = []
      · rw [if_pos hn, hn, List.append_nil]
        exact ev_pos rfl (ev_eq rfl)
      · rw [if_neg hn]
        have hne : (kids (trie ws) i).length ≠ 0 := fun e => hn (List.length_eq_zero_iff.1 e)
        refine ev_neg (by omega) (ev_pos (by rw [wb_size]; omega) ?_)
        have e40 : wb A ++ (⟨#[40]⟩ : ByteArray) = wb (A ++ [40]) := wb_append A [40]
        rw [e40]
        have loop : ∀ (K pre : List Nat), kids (trie ws) i = pre ++ K → Ev (fun k => spec_l2Text.l0 k (wb (A ++ [40] ++ pre.flatMap (textN (trie ws)))) (ints (kids (trie ws) i)) (pre.length : Nat) (trie ws)) (wb (A ++ 40 :: ((kids (trie ws) i).flatMap (textN (trie ws)) ++ [41]))) := by
          intro K
          induction K with
          | nil =>
            intro pre he
            have hl : (kids (trie ws) i).length = pre.length := by rw [he]; simp
            have hpl := kids_text_len h hi he
            refine Ev.step (fun k => by unfold spec_l2Text.l0; rfl) (ev_neg (by rw [ints_length]; omega) (ev_pos (by rw [wb_size]; simp only [List.length_append, List.length_cons, List.length_nil]; omega) (ev_eq ?_)))
            have e41 : wb (A ++ [40] ++ pre.flatMap (textN (trie ws))) ++ (⟨#[41]⟩ : ByteArray) = wb (A ++ [40] ++ pre.flatMap (textN (trie ws)) ++ [41]) := wb_append _ [41]
            rw [e41, he]
            congr 1
            simp
          | cons c K ihK =>
            intro pre he
            have hl : (kids (trie ws) i).length = pre.length + (K.length + 1) := by rw [he]; simp
            have hc0 : (kids (trie ws) i).getD pre.length 0 = c := by rw [he]; simp [List.getD]
            have hcm : c ∈ kids (trie ws) i := by rw [he]; simp
            have hcg := kids_gt hg hcm
            have hkl := kids_length (trie ws) i
            have hpl := kids_text_len h hi he
            have hcl := textN_len h hcg.2
            refine Ev.step (fun k => by unfold spec_l2Text.l0; rfl) (ev_pos (by rw [ints_length]; omega) (ev_pos (by omega) ?_))
            rw [rd_ints (by omega), hc0, inc (i := pre.length) (by omega)]
            refine Ev.bind (ih c (by omega) hcg.2) (ev_pos (by rw [wb_size, wb_size]; simp only [List.length_append, List.length_cons, List.length_nil]; omega) ?_)
            rw [wb_append]
            have := ihK (pre ++ [c]) (by rw [he]; simp)
            rw [List.flatMap_append, List.flatMap_cons, List.flatMap_nil, List.append_nil, List.length_append] at this
            rw [List.append_assoc (A ++ [40])]
            exact this
        have := loop _ [] rfl
        simpa using this
    have j0 : ∀ A : Wd, A.length ≤ 1 → Ev (fun k => spec_l2Text.j0 k (i : Int) (wb A) (ints (kids (trie ws) i)) (trie ws)) (wb (A ++ ((if ((trie ws).getD i zND).f2 = true then [46] else []) ++ (if kids (trie ws) i = [] then [] else 40 :: ((kids (trie ws) i).flatMap (textN (trie ws)) ++ [41]))))) := by
      intro A hA
      refine Ev.step (fun k => by unfold spec_l2Text.j0; rfl) (ev_pos (by omega) (ev_pos (by omega) ?_))
      rw [hrd]
      by_cases he : ((trie ws).getD i zND).f2 = true
      · rw [if_pos he]
        refine ev_pos he (ev_pos (by rw [wb_size]; omega) ?_)
        have e46 : wb A ++ (⟨#[46]⟩ : ByteArray) = wb (A ++ [46]) := wb_append A [46]
        rw [e46, ← List.append_assoc]
        exact j1 (A ++ [46]) (by simp; omega)
      · rw [if_neg he, List.nil_append]
        exact ev_neg he (j1 A (by omega))
    rw [textN_eq hg hi]
    refine Ev.step (fun k => by unfold spec_l2Text.f; rfl) (Ev.bind (l2Kids_ev hg hi) ?_)
    by_cases h0 : 0 < i
    · have hr := letter_range hg hi h0
      rw [if_pos h0]
      refine ev_pos (by omega) (ev_pos (by omega) (ev_pos (by omega) ?_))
      rw [hrd, letter_str hr.1 hr.2]
      exact j0 [letterB ((trie ws).getD i zND).f0] (by simp)
    · rw [if_neg h0, List.nil_append]
      have := j0 [] (by simp)
      rw [List.nil_append] at this
      exact ev_neg (by omega) this
end
end Go.Proofs.YtcplbbflfgckbaaGreatDoor.Pl
set_option linter.unusedVariables false
set_option linter.unusedSimpArgs false
namespace Go.Proofs.YtcplbbflfgckbaaGreatDoor.Pl
open Go.RowKit Go.Proofs.YtcplbbflfgckbaaGreatDoorW.PrintWords Go.Proofs.YtcplbbflfgckbaaGreatDoorW.PrintLast Go.Proofs.YtcplbbflfgckbaaGreatDoorW.PrintMore Go.Proofs.YtcplbbflfgckbaaGreatDoor.X

/-- The words that a node's text tells, in its order. -/
def wordsF (ws : List Wd) : Nat → Nat → List Wd
  | 0, _ => []
  | f + 1, i => (if (prefs ws).getD i [] ∈ ws then [(prefs ws).getD i []] else []) ++ (kids (trie ws) i).flatMap (wordsF ws f)
def wordsN (ws : List Wd) (i : Nat) : List Wd := wordsF ws (trie ws).length i
section
variable {ws : List Wd} (h : WOk ws)
include h
theorem wordsF_more : ∀ d i f g, (trie ws).length - i ≤ d → i < (trie ws).length → d ≤ f → d ≤ g → wordsF ws f i = wordsF ws g i := by
  have hg := gok_trie h.ok h.le
  intro d
  induction d with
  | zero => intro i f g h1 h2; omega
  | succ d ih =>
    intro i f g h1 h2 h3 h4
    obtain ⟨f, rfl⟩ : ∃ m, f = m + 1 := ⟨f - 1, by omega⟩
    obtain ⟨g, rfl⟩ : ∃ m, g = m + 1 := ⟨g - 1, by omega⟩
    unfold wordsF
    congr 1
    have : ∀ L : List Nat, (∀ c ∈ L, c ∈ kids (trie ws) i) → L.flatMap (wordsF ws f) = L.flatMap (wordsF ws g) := by
      intro L
      induction L with
      | nil => exact fun _ => rfl
      | cons c L ihL =>
        intro hL
        have hc := kids_gt hg (hL c List.mem_cons_self)
        rw [List.flatMap_cons, List.flatMap_cons, ih c f g (by omega) hc.2 (by omega) (by omega), ihL (fun c hc => hL c (List.mem_cons_of_mem _ hc))]
    exact this _ (fun c hc => hc)
theorem wordsN_eq {i : Nat} (hi : i < (trie ws).length) : wordsN ws i = (if (prefs ws).getD i [] ∈ ws then [(prefs ws).getD i []] else []) ++ (kids (trie ws) i).flatMap (wordsN ws) := by
  unfold wordsN
  rw [wordsF_more h (trie ws).length i (trie ws).length ((trie ws).length + 1) (by omega) hi (Nat.le_refl _) (by omega)]
  rfl
theorem mem_words_kids {i : Nat} (hi : i < (trie ws).length) {x : Wd} (hx : x ∈ ws) : (prefs ws).getD i [] <+: x ↔ x = (prefs ws).getD i [] ∨ ∃ c ∈ kids (trie ws) i, (prefs ws).getD c [] <+: x := by
  have e := one_word h hi hx
  constructor
  · intro hp
    by_cases he : x = (prefs ws).getD i []
    · exact .inl he
    · refine .inr (Classical.byContradiction fun hno => ?_)
      rw [zero_sum _ (fun c hc hf => hno ⟨c, hc, hf⟩)] at e
      unfold ind at e
      rw [if_pos hp, if_neg he] at e
      omega
  · rintro (he | ⟨c, hc, hcx⟩)
    · rw [he]; exact List.prefix_refl _
    · refine (List.IsPrefix.trans ?_ hcx)
      rw [((gok_trie h.ok h.le).kid_word hc).1]
      exact List.prefix_append _ _
theorem mem_wordsN : ∀ d i, (trie ws).length - i ≤ d → i < (trie ws).length → ∀ x, x ∈ wordsN ws i ↔ x ∈ ws ∧ (prefs ws).getD i [] <+: x := by
  have hg := gok_trie h.ok h.le
  intro d
  induction d with
  | zero => intro i h1 h2; omega
  | succ d ih =>
    intro i hd hi x
    rw [wordsN_eq h hi, List.mem_append, List.mem_flatMap]
    constructor
    · rintro (h1 | ⟨c, hc, hx⟩)
      · by_cases hm : (prefs ws).getD i [] ∈ ws
        · rw [if_pos hm, List.mem_singleton] at h1
          rw [h1]; exact ⟨hm, List.prefix_refl _⟩
        · rw [if_neg hm] at h1; cases h1
      · have hcg := kids_gt hg hc
        obtain ⟨h1, h2⟩ := (ih c (by omega) hcg.2 x).1 hx
        exact ⟨h1, (mem_words_kids h hi h1).2 (.inr ⟨c, hc, h2⟩)⟩
    · rintro ⟨h1, h2⟩
      rcases (mem_words_kids h hi h1).1 h2 with he | ⟨c, hc, hcx⟩
      · left
        rw [if_pos (he ▸ h1), List.mem_singleton]; exact he
      · have hcg := kids_gt hg hc
        exact .inr ⟨c, hc, (ih c (by omega) hcg.2 x).2 ⟨h1, hcx⟩⟩
theorem length_wordsN : ∀ d i, (trie ws).length - i ≤ d → i < (trie ws).length → (wordsN ws i).length = (underL ws ((prefs ws).getD i [])).length := by
  have hg := gok_trie h.ok h.le
  intro d
  induction d with
  | zero => intro i h1 h2; omega
  | succ d ih =>
    intro i hd hi
    rw [wordsN_eq h hi, under_kids h hi, List.length_append]
    congr 1
    · unfold ind
      split <;> rfl
    · have : ∀ L : List Nat, (∀ c ∈ L, c ∈ kids (trie ws) i) → (L.flatMap (wordsN ws)).length = (L.map fun c => (underL ws ((prefs ws).getD c [])).length).sum := by
        intro L
        induction L with
        | nil => exact fun _ => rfl
        | cons c L ihL =>
          intro hL
          have hc := kids_gt hg (hL c List.mem_cons_self)
          rw [List.flatMap_cons, List.length_append, List.map_cons, List.sum_cons, ih c (by omega) hc.2, ihL (fun c hc => hL c (List.mem_cons_of_mem _ hc))]
      exact this _ (fun c hc => hc)
end
theorem extract_midP (s : ByteArray) (a b : Nat) : s.extract a b = wb (((bw s).take b).drop a) := bw_inj (by
  rw [bw_wb]
  show (s.extract a b).data.toList = _
  rw [Lib.extract_data]
  show ((bw s).drop a).take (b - a) = _
  rw [List.drop_take])
theorem extract_take (s : ByteArray) (a b : Nat) : bw (s.extract a b) = ((bw s).take b).drop a := by rw [extract_midP, bw_wb]
/-! ### one sign -/
theorem bt_at_len {s : ByteArray} {pre post : Wd} {b : UInt8} (e : bw s = pre ++ b :: post) : bt s (pre.length : Int) = (b.toNat : Int) ∧ pre.length < s.size := by
  have hl : pre.length < s.size := by rw [← bw_size, e]; simp
  refine ⟨?_, hl⟩
  rw [bt_bw hl]
  congr 2
  simp [e]
/-- The lengths on the way to a node. -/
def wayN (n : Nat) : List Int := ints (List.range (n + 1))
theorem wayN_length (n : Nat) : (wayN n).length = n + 1 := by unfold wayN; rw [ints_length, List.length_range]
theorem wayN_last (n : Nat) : rd (wayN n) (n : Int) = (n : Int) := by
  unfold wayN
  rw [rd_ints (by rw [List.length_range]; omega)]
  simp [List.getD]
theorem wayN_succ (n : Nat) : wayN (n + 1) = wayN n ++ [((n + 1 : Nat) : Int)] := by
  unfold wayN ints
  rw [List.range_succ, List.map_append]; rfl
theorem wayN_take (n : Nat) : (wayN (n + 1)).take (n + 1) = wayN n := by
  rw [wayN_succ]
  have := wayN_length n
  rw [List.take_left' this]
section
variable {s : ByteArray} {R : List ND × Bool} (hs : s.size ≤ 1000000000)
include hs
/-- The program: a full stop. -/
theorem dot_i {pre post : Wd} (e : bw s = pre ++ 46 :: post) {way : List Int} {w : Wd} {L : List Wd} (hw : w.length ≤ 12) (hL : L.length + 1 ≤ 40) (hy : way.length ≤ 12)
    (h : Ev (fun k => impl_ParseTrie.l0 k s way (wb w) ((L ++ [w]).map wb) (s.size : Int) ((pre.length + 1 : Nat) : Int)) R) : Ev (fun k => impl_ParseTrie.l0 k s way (wb w) (L.map wb) (s.size : Int) (pre.length : Nat)) R := by
  obtain ⟨hb, hl⟩ := bt_at_len e
  refine Ev.step (fun k => by unfold impl_ParseTrie.l0; rfl) (ev_pos (by omega) (ev_pos (by omega) (ev_pos (by omega) ?_)))
  rw [hb, inc (by omega)]
  refine ev_pos rfl (ev_pos (by rw [List.length_map]; omega) (ev_some ?_))
  have e2 : L.map wb ++ [wb w] = (L ++ [w]).map wb := by rw [List.map_append]; rfl
  rw [e2]
  exact ev_neg (by rw [wb_size]; omega) (ev_neg (by rw [List.length_map, List.length_append, List.length_cons, List.length_nil]; omega) (ev_neg (by omega) h))
/-- An opening bracket. -/
theorem open_i {pre post : Wd} (e : bw s = pre ++ 40 :: post) {way : List Int} {w : Wd} {L : List Wd} (hw : w.length ≤ 12) (hL : L.length ≤ 40) (hy : way.length + 1 ≤ 12)
    (h : Ev (fun k => impl_ParseTrie.l0 k s (way ++ [(w.length : Int)]) (wb w) (L.map wb) (s.size : Int) ((pre.length + 1 : Nat) : Int)) R) : Ev (fun k => impl_ParseTrie.l0 k s way (wb w) (L.map wb) (s.size : Int) (pre.length : Nat)) R := by
  obtain ⟨hb, hl⟩ := bt_at_len e
  refine Ev.step (fun k => by unfold impl_ParseTrie.l0; rfl) (ev_pos (by omega) (ev_pos (by omega) (ev_pos (by omega) ?_)))
  rw [hb, inc (by omega)]
  refine ev_neg (by decide) (ev_pos rfl (ev_pos (by omega) (ev_some ?_)))
  rw [wb_size]
  exact ev_neg (by omega) (ev_neg (by rw [List.length_map]; omega) (ev_neg (by rw [List.length_append, List.length_cons, List.length_nil]; omega) h))
/-- A closing one. -/
theorem close_i {pre post : Wd} (e : bw s = pre ++ 41 :: post) {n : Nat} {w : Wd} {L : List Wd} (hn : n ≤ w.length) (hn2 : n ≤ 12) (hL : L.length ≤ 40)
    (h : Ev (fun k => impl_ParseTrie.l0 k s ((wayN n).take n) (wb (w.take n)) (L.map wb) (s.size : Int) ((pre.length + 1 : Nat) : Int)) R) : Ev (fun k => impl_ParseTrie.l0 k s (wayN n) (wb w) (L.map wb) (s.size : Int) (pre.length : Nat)) R := by
  obtain ⟨hb, hl⟩ := bt_at_len e
  have hyl := wayN_length n
  have hyi : ((wayN n).length : Int) - 1 = (n : Int) := by omega
  refine Ev.step (fun k => by unfold impl_ParseTrie.l0; rfl) (ev_pos (by omega) (ev_pos (by omega) (ev_pos (by omega) ?_)))
  rw [hb]
  refine ev_neg (by decide) (ev_neg (by decide) (ev_pos rfl ?_))
  rw [decide_eq_true (by omega : ((wayN n).length : Int) > 0)]
  refine Ev.step (fun k => by unfold impl_ParseTrie.j1; rfl) (ev_pos rfl ?_)
  rw [hyi, w64 (x := (n : Int)) (by omega) (by omega), wayN_last, inc (by omega), Int.toNat_natCast, extract_wb]
  refine ev_pos (by omega) (ev_pos (by omega) (ev_pos (by omega) (ev_pos (by rw [wb_size]; omega) (ev_pos (by omega) (ev_some ?_)))))
  exact ev_neg (by rw [wb_size, List.length_take]; omega) (ev_neg (by rw [List.length_map]; omega) (ev_neg (by rw [List.length_take]; omega) h))
/-- A letter. -/
theorem letter_i {pre post : Wd} {b : UInt8} (e : bw s = pre ++ b :: post) (hb1 : 97 ≤ b.toNat) (hb2 : b.toNat ≤ 122) {n : Nat} {w : Wd} {L : List Wd} (hn : n ≤ w.length) (hn2 : n ≤ 11) (hL : L.length ≤ 40)
    (h : Ev (fun k => impl_ParseTrie.l0 k s (wayN n) (wb (w.take n ++ [b])) (L.map wb) (s.size : Int) ((pre.length + 1 : Nat) : Int)) R) : Ev (fun k => impl_ParseTrie.l0 k s (wayN n) (wb w) (L.map wb) (s.size : Int) (pre.length : Nat)) R := by
  obtain ⟨hb, hl⟩ := bt_at_len e
  have hyl := wayN_length n
  have hyi : ((wayN n).length : Int) - 1 = (n : Int) := by omega
  have hex : s.extract pre.length (pre.length + 1) = wb [b] := bw_inj (by
    rw [bw_wb]
    have : bw (s.extract pre.length (pre.length + 1)) = ((bw s).take (pre.length + 1)).drop pre.length := by
      have h1 := extract_take s pre.length (pre.length + 1)
      exact h1
    rw [this, e, show pre.length + 1 = (pre ++ [b]).length by simp, show pre ++ b :: post = (pre ++ [b]) ++ post by simp, List.take_left, List.drop_left])
  refine Ev.step (fun k => by unfold impl_ParseTrie.l0; rfl) (ev_pos (by omega) (ev_pos (by omega) (ev_pos (by omega) ?_)))
  rw [hb]
  have fin : Ev (fun k => impl_ParseTrie.j1 k s (wayN n) (wb w) (L.map wb) (pre.length : Nat) (b.toNat : Int) (s.size : Int) (pre.length : Nat) false) R := by
    refine Ev.step (fun k => by unfold impl_ParseTrie.j1; rfl) (ev_neg (by decide) (ev_pos (by omega) (ev_pos (by omega) ?_)))
    rw [decide_eq_true (by omega : ((wayN n).length : Int) > 0)]
    refine Ev.step (fun k => by unfold impl_ParseTrie.j2; rfl) (ev_pos rfl ?_)
    rw [hyi, w64 (x := (n : Int)) (by omega) (by omega), wayN_last, inc (by omega), Int.toNat_natCast, Int.toNat_natCast, Int.toNat_natCast, extract_wb, hex, wb_append]
    refine ev_pos (by omega) (ev_pos (by omega) (ev_pos (by omega) (ev_pos (by rw [wb_size]; omega) (ev_pos (by omega) (ev_pos (by omega) (ev_pos (by omega) (ev_pos (by rw [wb_size, wb_size, List.length_take, List.length_cons, List.length_nil]; omega) ?_)))))))
    exact ev_neg (by rw [wb_size, List.length_append, List.length_take, List.length_cons, List.length_nil]; omega) (ev_neg (by rw [List.length_map]; omega) (ev_neg (by omega) h))
  refine ev_neg (by omega) (ev_neg (by omega) (ev_neg (by omega) fin))
/-- The reference: a full stop, brackets, a letter. -/
theorem dot_s {pre post : Wd} (e : bw s = pre ++ 46 :: post) {p l : Wd} {L : List Wd} (hp : p.length ≤ 1000000) (hl2 : l.length ≤ 1000000) (hL : L.length ≤ 1000000)
    (h : Ev (fun k => spec_l2Parse.l0 k s ((L ++ [p ++ l]).map wb) (wb p) (wb l) ((pre.length + 1 : Nat) : Int)) R) : Ev (fun k => spec_l2Parse.l0 k s (L.map wb) (wb p) (wb l) (pre.length : Nat)) R := by
  obtain ⟨hb, hl⟩ := bt_at_len e
  refine Ev.step (fun k => by unfold spec_l2Parse.l0; rfl) (ev_pos (by omega) (ev_pos (by omega) ?_))
  rw [hb, inc (by omega), wb_append]
  refine ev_pos rfl (ev_pos (by rw [wb_size, wb_size]; omega) (ev_pos (by rw [List.length_map]; omega) ?_))
  have e2 : L.map wb ++ [wb (p ++ l)] = (L ++ [p ++ l]).map wb := by rw [List.map_append]; rfl
  rw [e2]
  exact h
theorem open_s {pre post : Wd} (e : bw s = pre ++ 40 :: post) {p l : Wd} {L : List Wd} (hp : p.length ≤ 1000000) (hl2 : l.length ≤ 1000000)
    (h : Ev (fun k => spec_l2Parse.l0 k s (L.map wb) (wb (p ++ l)) (⟨#[]⟩ : ByteArray) ((pre.length + 1 : Nat) : Int)) R) : Ev (fun k => spec_l2Parse.l0 k s (L.map wb) (wb p) (wb l) (pre.length : Nat)) R := by
  obtain ⟨hb, hl⟩ := bt_at_len e
  refine Ev.step (fun k => by unfold spec_l2Parse.l0; rfl) (ev_pos (by omega) (ev_pos (by omega) ?_))
  rw [hb, inc (by omega), wb_append]
  exact ev_neg (by decide) (ev_pos rfl (ev_pos (by rw [wb_size, wb_size]; omega) h))
theorem close_s {pre post : Wd} (e : bw s = pre ++ 41 :: post) {p l : Wd} {L : List Wd} (hp : p.length ≤ 1000000)
    (h : Ev (fun k => spec_l2Parse.l0 k s (L.map wb) (wb p.dropLast) (wb (p.drop (p.length - 1))) ((pre.length + 1 : Nat) : Int)) R) : Ev (fun k => spec_l2Parse.l0 k s (L.map wb) (wb p) (wb l) (pre.length : Nat)) R := by
  obtain ⟨hb, hl⟩ := bt_at_len e
  refine Ev.step (fun k => by unfold spec_l2Parse.l0; rfl) (ev_pos (by omega) (ev_pos (by omega) ?_))
  rw [hb, inc (i := pre.length) (by omega)]
  refine ev_neg (by decide) (ev_neg (by decide) (ev_pos rfl ?_))
  cases p with
  | nil => exact ev_pos (by rw [toList_bw]; rfl) h
  | cons a p =>
    refine ev_neg (by rw [toList_bw, bw_wb]; simp) ?_
    rw [wb_size, w64 (by rw [List.length_cons]; omega) (by omega), show ((((a :: p).length : Nat) : Int) - 1).toNat = (a :: p).length - 1 by rw [List.length_cons]; omega, extract_wb, ← List.dropLast_eq_take]
    have e3 : (wb (a :: p)).extract ((a :: p).length - 1) (a :: p).length = wb ((a :: p).drop ((a :: p).length - 1)) := bw_inj (by rw [extract_take, bw_wb, bw_wb, List.take_length])
    rw [e3]
    exact ev_pos (by rw [List.length_cons]; omega) (ev_pos (by omega) h)
theorem letter_s {pre post : Wd} {b : UInt8} (e : bw s = pre ++ b :: post) (hb1 : 97 ≤ b.toNat) {p l : ByteArray} {L : List Wd}
    (h : Ev (fun k => spec_l2Parse.l0 k s (L.map wb) p (wb [b]) ((pre.length + 1 : Nat) : Int)) R) : Ev (fun k => spec_l2Parse.l0 k s (L.map wb) p l (pre.length : Nat)) R := by
  obtain ⟨hb, hl⟩ := bt_at_len e
  have hex : s.extract pre.length (pre.length + 1) = wb [b] := bw_inj (by
    rw [bw_wb, extract_take, e, show pre.length + 1 = (pre ++ [b]).length by simp, show pre ++ b :: post = (pre ++ [b]) ++ post by simp, List.take_left, List.drop_left])
  refine Ev.step (fun k => by unfold spec_l2Parse.l0; rfl) (ev_pos (by omega) (ev_pos (by omega) ?_))
  rw [hb, inc (by omega), Int.toNat_natCast, Int.toNat_natCast, hex]
  exact ev_neg (by omega) (ev_neg (by omega) (ev_neg (by omega) (ev_pos (by omega) (ev_pos (by omega) h))))
end
/-! ### a node's text -/
section
variable {ws : List Wd} (h : WOk ws) {s : ByteArray} {R : List ND × Bool} (hs : s.size ≤ 1000000000)
include h hs
theorem seg_i : ∀ d i, (trie ws).length - i ≤ d → i < (trie ws).length → 0 < i → ∀ (n : Nat) (pre post w : Wd) (L : List Wd), bw s = pre ++ (textN (trie ws) i ++ post) → ((prefs ws).getD i []).length = n + 1 → ((prefs ws).getD i []).take n = w.take n → n ≤ w.length → w.length ≤ 12 → L.length + (wordsN ws i).length ≤ 40 →
    (∀ w' : Wd, w'.take n = w.take n → n ≤ w'.length → w'.length ≤ 12 → Ev (fun k => impl_ParseTrie.l0 k s (wayN n) (wb w') ((L ++ wordsN ws i).map wb) (s.size : Int) ((pre.length + (textN (trie ws) i).length : Nat) : Int)) R) →
    Ev (fun k => impl_ParseTrie.l0 k s (wayN n) (wb w) (L.map wb) (s.size : Int) (pre.length : Nat)) R := by
  have hg := gok_trie h.ok h.le
  intro d
  induction d with
  | zero => intro i h1 h2; omega
  | succ d ih =>
    intro i hd hi h0 n pre post w L hsb hlen htk hnw hw hLl hR
    have hr := letter_range hg hi h0
    have hsh := hg.short' hi
    have hpar := hg.par_lt hi h0
    have hkw := (hg.kid_word (i := (par (trie ws) i).toNat) (mem_kids.2 ⟨hi, by omega⟩)).1
    have hbn := letterB_nat hr
    have hP : (prefs ws).getD i [] = w.take n ++ [letterB ((trie ws).getD i zND).f0] := by
      have h1 : ((prefs ws).getD (par (trie ws) i).toNat []).length = n := by rw [hkw, List.length_append] at hlen; simpa using hlen
      rw [hkw, ← h1, List.take_left] at htk
      rw [hkw, htk, h1]
    generalize hbb : letterB ((trie ws).getD i zND).f0 = b at hbn hP
    have htx := textN_eq hg hi
    rw [if_pos h0, hbb, node_end h hi] at htx
    have hwd := wordsN_eq h hi
    generalize hp : (prefs ws).getD i [] = p at hlen htk hP htx hwd hsh
    have hpt : p.take n = w.take n := htk
    rw [htx] at hsb
    refine letter_i hs (b := b) (post := (if decide (p ∈ ws) = true then [46] else []) ++ ((if kids (trie ws) i = [] then [] else 40 :: ((kids (trie ws) i).flatMap (textN (trie ws)) ++ [41])) ++ post)) (by rw [hsb]; simp) (by omega) (by omega) hnw (by omega) (by omega) ?_
    rw [← hP]
    -- behind the sign
    have rest : ∀ (pre2 : Wd) (L2 : List Wd), bw s = pre2 ++ ((if kids (trie ws) i = [] then [] else 40 :: ((kids (trie ws) i).flatMap (textN (trie ws)) ++ [41])) ++ post) → L2 ++ (kids (trie ws) i).flatMap (wordsN ws) = L ++ wordsN ws i → pre2.length + (if kids (trie ws) i = [] then ([] : Wd) else 40 :: ((kids (trie ws) i).flatMap (textN (trie ws)) ++ [41])).length = pre.length + (textN (trie ws) i).length →
        Ev (fun k => impl_ParseTrie.l0 k s (wayN n) (wb p) (L2.map wb) (s.size : Int) (pre2.length : Nat)) R := by
      intro pre2 L2 hsb2 hL2 hpos
      have hL2l : L2.length + ((kids (trie ws) i).flatMap (wordsN ws)).length ≤ 40 := by
        have := congrArg List.length hL2
        rw [List.length_append, List.length_append] at this
        omega
      have hfin := hR p hpt (by omega) (by omega)
      rw [← hL2, ← hpos] at hfin
      by_cases hn : kids (trie ws) i = []
      · rw [hn, if_pos rfl] at hfin
        simpa using hfin
      · rw [if_neg hn] at hsb2 hfin
        obtain ⟨c0, hc0⟩ := List.exists_mem_of_ne_nil _ hn
        have hkl : ∀ c ∈ kids (trie ws) i, ((prefs ws).getD c []).length = n + 2 ∧ ((prefs ws).getD c []).take (n + 1) = p := fun c hc => by
          refine ⟨?_, ?_⟩
          · rw [(hg.kid_word hc).1, hp, List.length_append, hlen]; rfl
          · rw [(hg.kid_word hc).1, hp, ← hlen, List.take_left]
        have hn10 : n ≤ 10 := by
          have := (hkl c0 hc0).1
          have := hg.short' (kids_gt hg hc0).2
          omega
        refine open_i hs (post := (kids (trie ws) i).flatMap (textN (trie ws)) ++ (41 :: post)) (by rw [hsb2]; simp) (by omega) (by omega) (by rw [wayN_length]; omega) ?_
        have eway : wayN n ++ [((p.length : Nat) : Int)] = wayN (n + 1) := by rw [hlen, wayN_succ]
        rw [eway]
        have loop : ∀ (K preK : List Nat) (pre3 w3 : Wd) (L3 : List Wd), kids (trie ws) i = preK ++ K → bw s = pre3 ++ (K.flatMap (textN (trie ws)) ++ (41 :: post)) → L3 ++ K.flatMap (wordsN ws) = L2 ++ (kids (trie ws) i).flatMap (wordsN ws) → w3.take (n + 1) = p → w3.length ≤ 12 → pre3.length + (K.flatMap (textN (trie ws))).length + 1 = pre2.length + (40 :: ((kids (trie ws) i).flatMap (textN (trie ws)) ++ [41])).length →
            Ev (fun k => impl_ParseTrie.l0 k s (wayN (n + 1)) (wb w3) (L3.map wb) (s.size : Int) (pre3.length : Nat)) R := by
          intro K
          induction K with
          | nil =>
            intro preK pre3 w3 L3 he hsb3 hL3 hw3 hw12 hp3
            have hL3' : L3 = L2 ++ (kids (trie ws) i).flatMap (wordsN ws) := by simpa using hL3
            have hw3l : n + 1 ≤ w3.length := by
              have := congrArg List.length hw3
              rw [List.length_take, hlen] at this
              omega
            refine close_i hs (post := post) (by rw [hsb3]; simp) hw3l (by omega) (by rw [hL3', List.length_append]; omega) ?_
            rw [wayN_take, hw3, hL3']
            have e5 : pre3.length + 1 = pre2.length + (40 :: ((kids (trie ws) i).flatMap (textN (trie ws)) ++ [41])).length := by
              simp only [List.flatMap_nil, List.length_nil] at hp3
              omega
            rw [e5]
            exact hfin
          | cons c K ihK =>
            intro preK pre3 w3 L3 he hsb3 hL3 hw3 hw12 hp3
            have hcm : c ∈ kids (trie ws) i := by rw [he]; simp
            have hcg := kids_gt hg hcm
            obtain ⟨q1, q2⟩ := hkl c hcm
            have hw3l : n + 1 ≤ w3.length := by
              have := congrArg List.length hw3
              rw [List.length_take, hlen] at this
              omega
            rw [List.flatMap_cons, List.append_assoc] at hsb3
            rw [List.flatMap_cons] at hL3
            have hLl3 : L3.length + (wordsN ws c).length ≤ 40 := by
              have := congrArg List.length hL3
              rw [List.length_append, List.length_append, List.length_append] at this
              omega
            refine ih c (by omega) hcg.2 (by omega) (n + 1) pre3 _ w3 L3 hsb3 q1 (by rw [q2, hw3]) hw3l hw12 hLl3 (fun w' h1 h2 h3 => ?_)
            have := ihK (preK ++ [c]) (pre3 ++ textN (trie ws) c) w' (L3 ++ wordsN ws c) (by rw [he]; simp) (by rw [hsb3]; simp) (by rw [List.append_assoc]; exact hL3) (by rw [h1, hw3]) h3 (by
              rw [List.flatMap_cons, List.length_append] at hp3
              rw [List.length_append]
              omega)
            rw [List.length_append] at this
            exact this
        exact loop (kids (trie ws) i) [] (pre2 ++ [40]) p L2 rfl (by rw [hsb2]; simp) rfl (by rw [← hlen, List.take_length]) (by omega) (by simp; omega) |> (fun hh => by rw [List.length_append] at hh; exact hh)
    by_cases hm : p ∈ ws
    · rw [if_pos hm] at hwd
      rw [decide_eq_true hm, if_pos rfl] at htx hsb
      have hl1 : L.length + 1 ≤ 40 := by rw [hwd, List.length_append] at hLl; simp at hLl; omega
      have e1 : pre.length + 1 = (pre ++ [b]).length := by simp
      rw [e1]
      refine dot_i hs (post := (if kids (trie ws) i = [] then [] else 40 :: ((kids (trie ws) i).flatMap (textN (trie ws)) ++ [41])) ++ post) (by rw [hsb]; simp [hm]) (by omega) hl1 (by rw [wayN_length]; omega) ?_
      have e2 : (pre ++ [b]).length + 1 = (pre ++ [b, 46]).length := by simp
      rw [e2]
      refine rest (pre ++ [b, 46]) (L ++ [p]) (by rw [hsb]; simp [hm]) (by rw [hwd]; simp) ?_
      rw [htx]
      simp only [List.length_append, List.length_cons, List.length_nil]
      omega
    · rw [if_neg hm] at hwd
      rw [decide_eq_false hm, if_neg (by decide)] at htx hsb
      have e1 : pre.length + 1 = (pre ++ [b]).length := by simp
      rw [e1]
      refine rest (pre ++ [b]) L (by rw [hsb]; simp) (by rw [hwd]; simp) ?_
      rw [htx]
      simp only [List.length_append, List.length_cons, List.length_nil]
      omega
theorem seg_s : ∀ d i, (trie ws).length - i ≤ d → i < (trie ws).length → 0 < i → ∀ (q : Wd) (pre post : Wd) (l : ByteArray) (L : List Wd), bw s = pre ++ (textN (trie ws) i ++ post) → ((prefs ws).getD i []).dropLast = q → L.length + (wordsN ws i).length ≤ 1000 →
    (∀ l' : ByteArray, Ev (fun k => spec_l2Parse.l0 k s ((L ++ wordsN ws i).map wb) (wb q) l' ((pre.length + (textN (trie ws) i).length : Nat) : Int)) R) →
    Ev (fun k => spec_l2Parse.l0 k s (L.map wb) (wb q) l (pre.length : Nat)) R := by
  have hg := gok_trie h.ok h.le
  intro d
  induction d with
  | zero => intro i h1 h2; omega
  | succ d ih =>
    intro i hd hi h0 q pre post l L hsb hdl hLl hR
    have hr := letter_range hg hi h0
    have hsh := hg.short' hi
    have hpar := hg.par_lt hi h0
    have hkw := (hg.kid_word (i := (par (trie ws) i).toNat) (mem_kids.2 ⟨hi, by omega⟩)).1
    have hbn := letterB_nat hr
    have hP : (prefs ws).getD i [] = q ++ [letterB ((trie ws).getD i zND).f0] := by
      rw [hkw, List.dropLast_concat] at hdl
      rw [hkw, hdl]
    generalize hbb : letterB ((trie ws).getD i zND).f0 = b at hbn hP
    have htx := textN_eq hg hi
    rw [if_pos h0, hbb, node_end h hi] at htx
    have hwd := wordsN_eq h hi
    generalize hp : (prefs ws).getD i [] = p at hdl hP htx hwd hsh
    have hlen : p.length = q.length + 1 := by rw [hP]; simp
    rw [htx] at hsb
    refine letter_s hs (b := b) (post := (if decide (p ∈ ws) = true then [46] else []) ++ ((if kids (trie ws) i = [] then [] else 40 :: ((kids (trie ws) i).flatMap (textN (trie ws)) ++ [41])) ++ post)) (by rw [hsb]; simp) (by omega) ?_
    have rest : ∀ (pre2 : Wd) (L2 : List Wd), bw s = pre2 ++ ((if kids (trie ws) i = [] then [] else 40 :: ((kids (trie ws) i).flatMap (textN (trie ws)) ++ [41])) ++ post) → L2 ++ (kids (trie ws) i).flatMap (wordsN ws) = L ++ wordsN ws i → pre2.length + (if kids (trie ws) i = [] then ([] : Wd) else 40 :: ((kids (trie ws) i).flatMap (textN (trie ws)) ++ [41])).length = pre.length + (textN (trie ws) i).length →
        Ev (fun k => spec_l2Parse.l0 k s (L2.map wb) (wb q) (wb [b]) (pre2.length : Nat)) R := by
      intro pre2 L2 hsb2 hL2 hpos
      have hL2l : L2.length + ((kids (trie ws) i).flatMap (wordsN ws)).length ≤ 1000 := by
        have := congrArg List.length hL2
        rw [List.length_append, List.length_append] at this
        omega
      have hfin := fun l' => hR l'
      rw [← hL2, ← hpos] at hfin
      by_cases hn : kids (trie ws) i = []
      · rw [hn, if_pos rfl] at hfin
        simpa using hfin (wb [b])
      · rw [if_neg hn] at hsb2 hfin
        refine open_s hs (post := (kids (trie ws) i).flatMap (textN (trie ws)) ++ (41 :: post)) (by rw [hsb2]; simp) (by omega) (by simp) ?_
        rw [← hP]
        have loop : ∀ (K preK : List Nat) (pre3 : Wd) (l3 : ByteArray) (L3 : List Wd), kids (trie ws) i = preK ++ K → bw s = pre3 ++ (K.flatMap (textN (trie ws)) ++ (41 :: post)) → L3 ++ K.flatMap (wordsN ws) = L2 ++ (kids (trie ws) i).flatMap (wordsN ws) → pre3.length + (K.flatMap (textN (trie ws))).length + 1 = pre2.length + (40 :: ((kids (trie ws) i).flatMap (textN (trie ws)) ++ [41])).length →
            Ev (fun k => spec_l2Parse.l0 k s (L3.map wb) (wb p) l3 (pre3.length : Nat)) R := by
          intro K
          induction K with
          | nil =>
            intro preK pre3 l3 L3 he hsb3 hL3 hp3
            have hL3' : L3 = L2 ++ (kids (trie ws) i).flatMap (wordsN ws) := by simpa using hL3
            have hcl := close_s (R := R) hs (pre := pre3) (post := post) (by rw [hsb3]; simp) (p := p) (l := bw l3) (L := L3) (by omega)
            rw [wb_bw] at hcl
            refine hcl ?_
            rw [hdl, hL3']
            have e5 : pre3.length + 1 = pre2.length + (40 :: ((kids (trie ws) i).flatMap (textN (trie ws)) ++ [41])).length := by
              simp only [List.flatMap_nil, List.length_nil] at hp3
              omega
            rw [e5]
            exact hfin _
          | cons c K ihK =>
            intro preK pre3 l3 L3 he hsb3 hL3 hp3
            have hcm : c ∈ kids (trie ws) i := by rw [he]; simp
            have hcg := kids_gt hg hcm
            rw [List.flatMap_cons, List.append_assoc] at hsb3
            rw [List.flatMap_cons] at hL3
            have hLl3 : L3.length + (wordsN ws c).length ≤ 1000 := by
              have := congrArg List.length hL3
              rw [List.length_append, List.length_append, List.length_append] at this
              omega
            refine ih c (by omega) hcg.2 (by omega) p pre3 _ l3 L3 hsb3 (by rw [(hg.kid_word hcm).1, hp, List.dropLast_concat]) hLl3 (fun l' => ?_)
            have := ihK (preK ++ [c]) (pre3 ++ textN (trie ws) c) l' (L3 ++ wordsN ws c) (by rw [he]; simp) (by rw [hsb3]; simp) (by rw [List.append_assoc]; exact hL3) (by
              rw [List.flatMap_cons, List.length_append] at hp3
              rw [List.length_append]
              omega)
            rw [List.length_append] at this
            exact this
        have := loop (kids (trie ws) i) [] (pre2 ++ [40]) (⟨#[]⟩ : ByteArray) L2 rfl (by rw [hsb2]; simp) rfl (by simp; omega)
        rw [List.length_append] at this
        exact this
    by_cases hm : p ∈ ws
    · rw [if_pos hm] at hwd
      rw [decide_eq_true hm, if_pos rfl] at htx hsb
      have hl1 : L.length + 1 ≤ 1000 := by rw [hwd, List.length_append] at hLl; simp at hLl; omega
      have e1 : pre.length + 1 = (pre ++ [b]).length := by simp
      rw [e1]
      refine dot_s hs (post := (if kids (trie ws) i = [] then [] else 40 :: ((kids (trie ws) i).flatMap (textN (trie ws)) ++ [41])) ++ post) (by rw [hsb]; simp [hm]) (by omega) (by simp) (by omega) ?_
      rw [← hP]
      have e2 : (pre ++ [b]).length + 1 = (pre ++ [b, 46]).length := by simp
      rw [e2]
      refine rest (pre ++ [b, 46]) (L ++ [p]) (by rw [hsb]; simp [hm]) (by rw [hwd]; simp) ?_
      rw [htx]
      simp only [List.length_append, List.length_cons, List.length_nil]
      omega
    · rw [if_neg hm] at hwd
      rw [decide_eq_false hm, if_neg (by decide)] at htx hsb
      have e1 : pre.length + 1 = (pre ++ [b]).length := by simp
      rw [e1]
      refine rest (pre ++ [b]) L (by rw [hsb]; simp) (by rw [hwd]; simp) ?_
      rw [htx]
      simp only [List.length_append, List.length_cons, List.length_nil]
      omega
end
end Go.Proofs.YtcplbbflfgckbaaGreatDoor.Pl
set_option linter.unusedVariables false
set_option linter.unusedSimpArgs false
namespace Go.Proofs.YtcplbbflfgckbaaGreatDoor.Pl
open Go.RowKit Go.Proofs.YtcplbbflfgckbaaGreatDoorW.PrintWords Go.Proofs.YtcplbbflfgckbaaGreatDoorW.PrintLast Go.Proofs.YtcplbbflfgckbaaGreatDoorW.PrintMore Go.Proofs.YtcplbbflfgckbaaGreatDoor.X

/-! ### a trie of words -/
/-- What making a trie answers. -/
def ofR (L : List Wd) : List ND × Bool := if (setW L).length ≤ 40 then (trie (setW L), true) else ([], false)
theorem map_wb_bw (L : List ByteArray) : (L.map bw).map wb = L := by rw [List.map_map]; exact (List.map_congr_left fun x _ => wb_bw x).trans (List.map_id L)
theorem ofWords_i (L : List ByteArray) (hl : L.length ≤ 4000000) (hw : ∀ x ∈ L.map bw, okW x) : Ev (fun k => impl_ofWords.f k L) (ofR (L.map bw)) := by
  have hs := set_eq (L.map bw) (by rw [List.length_map]; exact hl)
  rw [map_wb_bw] at hs
  unfold impl_ofWords.f
  rw [hs]
  unfold ofR
  refine ev_some (ev_ite (fun hc => ?_) (fun hc => ?_))
  · rw [if_neg (by rw [List.length_map] at hc; omega)]; exact ev_eq rfl
  · rw [List.length_map] at hc
    rw [if_pos (by omega)]
    refine Ev.bind (trieOf_ev _ (by omega) ((setW_SS _).imp (fun h => (le_iff _ _).2 (.inl h))) (fun w h => ?_)) (ev_eq rfl)
    have := (hw w ((mem_setW _ _).1 h)).1
    omega
theorem wok_set {L : List Wd} (hw : ∀ x ∈ L, okW x) (hl : (setW L).length ≤ 40) : WOk (setW L) := ⟨setW_SS _, fun w h => hw w ((mem_setW _ _).1 h), hl⟩
/-! ### making -/
theorem anyM_of {α : Type} {F : α → Option Bool} {p : α → Bool} : ∀ {l : List α}, (∀ z ∈ l, F z = some (p z)) → G.anyM F l = some (l.any p)
  | [], _ => rfl
  | x :: l, h => by
    show ((F x).bind fun b => if b = true then some true else G.anyM F l) = some (p x || l.any p)
    rw [h x List.mem_cons_self, Option.bind_some]
    cases p x with
    | true => rfl
    | false => rw [if_neg (by decide)]; exact anyM_of fun z hz => h z (List.mem_cons_of_mem _ hz)
def makeR (L : List Wd) : List ND × Bool := if ∀ w ∈ L, okW w then ofR L else ([], false)
theorem make_i (L : List ByteArray) (hl : L.length ≤ 1000000) (hs : ∀ x ∈ L, x.size ≤ 1000000) : Ev (fun k => impl_TrieOf.f k L) (makeR (L.map bw)) := by
  unfold impl_TrieOf.f
  have ha := anyM_of (F := fun z_ => impl_TrieOf_1.f z_) (p := fun z => !decide (okW (bw z))) (l := L) (fun z hz => by
    unfold impl_TrieOf_1.f
    rw [isWord_eq z (by have := hs z hz; omega)]; rfl)
  refine Ev.bind (ev_of ha) ?_
  unfold makeR
  by_cases hok : ∀ w ∈ L.map bw, okW w
  · rw [if_pos hok]
    refine ev_neg ?_ (Ev.bind (ofWords_i L (by omega) hok) (ev_eq rfl))
    rw [List.any_eq_true]
    rintro ⟨x, hx, h⟩
    rw [decide_eq_true (hok _ (List.mem_map_of_mem hx))] at h
    exact absurd h (by decide)
  · rw [if_neg hok]
    refine ev_pos ?_ (ev_eq rfl)
    rw [List.any_eq_true]
    simp only [List.mem_map, forall_exists_index, and_imp, forall_apply_eq_imp_iff₂, Classical.not_forall] at hok
    obtain ⟨x, hx, h⟩ := hok
    exact ⟨x, hx, by rw [decide_eq_false h]; rfl⟩
theorem make_s (L : List ByteArray) (hl : L.length ≤ 1000000) (hs : ∀ x ∈ L, x.size ≤ 1000000) : Ev (fun k => spec_TrieOf.f k L) (makeR (L.map bw)) := by
  unfold spec_TrieOf.f
  refine Ev.bind (l2Set_ev L (by omega) (fun x hx => by have := hs x hx; omega)) ?_
  unfold makeR refSet ofR
  by_cases hok : ∀ w ∈ L.map bw, okW w
  · rw [if_pos hok, if_pos hok]
    by_cases hl : (setW (L.map bw)).length ≤ 40
    · rw [if_pos hl, decide_eq_true hl]
      exact ev_pos rfl (Ev.bind (l2Of_ev (setW (L.map bw)) (by omega) (fun w hw => by have := ((wok_set hok hl).ok w hw).1; omega)) (ev_eq rfl))
    · rw [if_neg hl, decide_eq_false hl]
      exact ev_neg (by simp) (ev_eq rfl)
  · rw [if_neg hok, if_neg hok]
    exact ev_neg (by decide) (ev_eq rfl)
theorem ofR_cases {L : List Wd} (h : ∀ w ∈ L, okW w) : (∃ ws, WOk ws ∧ setW L = ws ∧ ofR L = (trie ws, true)) ∨ ofR L = ([], false) := by
  unfold ofR
  by_cases hl : (setW L).length ≤ 40
  · rw [if_pos hl]; exact .inl ⟨_, wok_set h hl, rfl, rfl⟩
  · rw [if_neg hl]; exact .inr rfl
theorem ofR_len {L : List Wd} (h : ∀ w ∈ L, okW w) : (ofR L).1.length ≤ 482 := by
  rcases ofR_cases h with ⟨ws, h, _, e⟩ | e
  · rw [e]; have := h.len; show (trie ws).length ≤ 482; omega
  · rw [e]; exact Nat.zero_le _
theorem makeR_len (L : List Wd) : (makeR L).1.length ≤ 482 := by
  unfold makeR
  split
  · next h => exact ofR_len h
  · exact Nat.zero_le _
end Go.Proofs.YtcplbbflfgckbaaGreatDoor.Pl
set_option linter.unusedVariables false
set_option linter.unusedSimpArgs false
namespace Go.Proofs.YtcplbbflfgckbaaGreatDoor.Pl
open Go.RowKit Go.Proofs.YtcplbbflfgckbaaGreatDoorW.PrintWords Go.Proofs.YtcplbbflfgckbaaGreatDoorW.PrintLast Go.Proofs.YtcplbbflfgckbaaGreatDoorW.PrintMore Go.Proofs.YtcplbbflfgckbaaGreatDoor.X

section
variable {ws : List Wd} (h : WOk ws)
include h
theorem set_wordsN : setW (wordsN ws 0) = ws := by
  have h0 : (prefs ws).getD 0 [] = [] := (prefP_spec (gok_trie h.ok h.le).pre).2.2.2.1
  refine (setW_SS _).ext h.ss (fun x => (mem_setW _ x).trans ?_)
  rw [mem_wordsN h _ 0 (Nat.sub_le _ _) (by have := h.len1; omega) x, h0]
  exact ⟨fun hx => hx.1, fun hx => ⟨hx, List.nil_prefix⟩⟩
theorem wordsN_len : (wordsN ws 0).length ≤ 40 := by
  rw [length_wordsN h _ 0 (Nat.sub_le _ _) (by have := h.len1; omega)]
  have := under_length ws ((prefs ws).getD 0 [])
  have := h.le
  omega
theorem text0_i : Ev (fun k => impl_Trie_text.f k (trie ws) 0) (wb (textW ws)) := text_i h _ 0 (Nat.sub_le _ _) (by have := h.len1; omega)
theorem text0_s : Ev (fun k => spec_l2Text.f k (trie ws) 0) (wb (textW ws)) := text_s h _ 0 (Nat.sub_le _ _) (by have := h.len1; omega)
/-! ### its own text -/
theorem read_i {s : ByteArray} (hs : s.size ≤ 1000000000) (he : bw s = textW ws) : Ev (fun k => impl_ParseTrie.f k s) (trie ws, true) := by
  have hg := gok_trie h.ok h.le
  have h0 : (prefs ws).getD 0 [] = [] := (prefP_spec hg.pre).2.2.2.1
  have hl1 : 0 < (trie ws).length := by have := h.len1; omega
  have hwl := wordsN_len h
  have htx : textW ws = _ := textN_eq hg hl1
  rw [if_neg (Nat.lt_irrefl 0), node_end h hl1, List.nil_append] at htx
  have hwd := wordsN_eq h hl1
  rw [h0] at htx hwd
  have hsz : s.size = (textW ws).length := by rw [← bw_size, he]
  unfold impl_ParseTrie.f
  -- behind all
  have fin : ∀ pos, pos = s.size → Ev (fun k => impl_ParseTrie.l0 k s [] (wb []) ((wordsN ws 0).map wb) (s.size : Int) (pos : Nat)) (trie ws, true) := by
    intro pos hp
    subst hp
    refine Ev.step (fun k => by unfold impl_ParseTrie.l0; rfl) (ev_neg (by omega) ?_)
    have hof := ofWords_i ((wordsN ws 0).map wb) (by rw [List.length_map]; omega) (by
      rw [bw_map_wb]
      exact fun x hx => h.ok x (((mem_wordsN h _ 0 (Nat.sub_le _ _) hl1 x).1 hx).1))
    rw [bw_map_wb] at hof
    unfold ofR at hof
    rw [set_wordsN h, if_pos h.le] at hof
    refine Ev.bind hof (ev_pos rfl (Ev.bind (text0_i h) (ev_pos ?_ (ev_eq rfl))))
    rw [toList_bw, toList_bw, bw_wb, he]
  have rest : ∀ (pre : Wd) (L : List Wd), bw s = pre ++ (if kids (trie ws) 0 = [] then [] else 40 :: ((kids (trie ws) 0).flatMap (textN (trie ws)) ++ [41])) → L ++ (kids (trie ws) 0).flatMap (wordsN ws) = wordsN ws 0 →
      Ev (fun k => impl_ParseTrie.l0 k s [] (wb []) (L.map wb) (s.size : Int) (pre.length : Nat)) (trie ws, true) := by
    intro pre L hb hL
    have hLl : L.length + ((kids (trie ws) 0).flatMap (wordsN ws)).length ≤ 40 := by
      have := congrArg List.length hL
      rw [List.length_append] at this
      omega
    by_cases hn : kids (trie ws) 0 = []
    · rw [if_pos hn, List.append_nil] at hb
      rw [hn, List.flatMap_nil, List.append_nil] at hL
      rw [hL]
      exact fin _ (by rw [← bw_size, hb])
    · rw [if_neg hn] at hb
      refine open_i hs hb (by simp) (by omega) (by simp) ?_
      have loop : ∀ (K preK : List Nat) (pre3 w3 : Wd) (L3 : List Wd), kids (trie ws) 0 = preK ++ K → bw s = pre3 ++ (K.flatMap (textN (trie ws)) ++ [41]) → L3 ++ K.flatMap (wordsN ws) = wordsN ws 0 → w3.length ≤ 12 →
          Ev (fun k => impl_ParseTrie.l0 k s (wayN 0) (wb w3) (L3.map wb) (s.size : Int) (pre3.length : Nat)) (trie ws, true) := by
        intro K
        induction K with
        | nil =>
          intro preK pre3 w3 L3 hk hb3 hL3 hw3
          rw [List.flatMap_nil, List.append_nil] at hL3
          refine close_i (n := 0) hs hb3 (Nat.zero_le _) (Nat.zero_le _) (by rw [hL3]; exact hwl) ?_
          rw [hL3]
          exact fin _ (by rw [← bw_size, hb3]; simp)
        | cons c K ihK =>
          intro preK pre3 w3 L3 hk hb3 hL3 hw3
          have hcm : c ∈ kids (trie ws) 0 := by rw [hk]; simp
          have hcg := kids_gt hg hcm
          have hcw := (hg.kid_word hcm).1
          rw [h0, List.nil_append] at hcw
          rw [List.flatMap_cons, List.append_assoc] at hb3
          rw [List.flatMap_cons] at hL3
          have hLl3 : L3.length + (wordsN ws c).length ≤ 40 := by
            have := congrArg List.length hL3
            rw [List.length_append, List.length_append] at this
            omega
          refine seg_i h hs _ c (Nat.sub_le _ _) hcg.2 hcg.1 0 pre3 _ w3 L3 hb3 (by rw [hcw]; rfl) rfl (Nat.zero_le _) hw3 hLl3 (fun w' h1 _ h2 => ?_)
          have := ihK (preK ++ [c]) (pre3 ++ textN (trie ws) c) w' (L3 ++ wordsN ws c) (by rw [hk]; simp) (by rw [hb3]; simp) (by rw [List.append_assoc]; exact hL3) (by omega)
          rw [List.length_append] at this
          exact this
      have := loop (kids (trie ws) 0) [] (pre ++ [40]) [] L rfl (by rw [hb]; simp) hL (by simp)
      rw [List.length_append] at this
      exact this
  by_cases hm : ([] : Wd) ∈ ws
  · rw [if_pos hm] at hwd
    rw [decide_eq_true hm, if_pos rfl] at htx
    refine dot_i (pre := []) (w := []) (L := []) hs (by rw [he, htx]; rfl) (by simp) (by simp) (by simp) ?_
    exact rest [46] [[]] (by rw [he, htx]) hwd.symm
  · rw [if_neg hm] at hwd
    rw [decide_eq_false hm, if_neg (by decide)] at htx
    exact rest [] [] (by rw [he, htx]) hwd.symm
theorem read_s {s : ByteArray} (hs : s.size ≤ 1000000000) (he : bw s = textW ws) : Ev (fun k => spec_l2Parse.f k s) (trie ws, true) := by
  have hg := gok_trie h.ok h.le
  have h0 : (prefs ws).getD 0 [] = [] := (prefP_spec hg.pre).2.2.2.1
  have hl1 : 0 < (trie ws).length := by have := h.len1; omega
  have hwl := wordsN_len h
  have htx : textW ws = _ := textN_eq hg hl1
  rw [if_neg (Nat.lt_irrefl 0), node_end h hl1, List.nil_append] at htx
  have hwd := wordsN_eq h hl1
  rw [h0] at htx hwd
  have hsz : s.size = (textW ws).length := by rw [← bw_size, he]
  have hmax := textW_len h
  unfold spec_l2Parse.f
  refine ev_neg (by omega) ?_
  have fin : ∀ (l : ByteArray) pos, pos = s.size → Ev (fun k => spec_l2Parse.l0 k s ((wordsN ws 0).map wb) (wb []) l (pos : Nat)) (trie ws, true) := by
    intro l pos hp
    subst hp
    refine Ev.step (fun k => by unfold spec_l2Parse.l0; rfl) (ev_neg (by omega) ?_)
    have hall : ∀ x ∈ wordsN ws 0, okW x := fun x hx => h.ok x (((mem_wordsN h _ 0 (Nat.sub_le _ _) hl1 x).1 hx).1)
    have hset := l2Set_ev ((wordsN ws 0).map wb) (by rw [List.length_map]; omega) (fun x hx => by
      obtain ⟨w, hw, rfl⟩ := List.mem_map.1 hx
      have := (hall w hw).1
      rw [wb_size]; omega)
    rw [bw_map_wb] at hset
    unfold refSet at hset
    rw [if_pos hall, set_wordsN h, decide_eq_true h.le] at hset
    refine Ev.bind hset (ev_pos rfl (Ev.bind (l2Of_ev ws (by have := h.le; omega) (fun w hw => by have := (h.ok w hw).1; omega)) (Ev.bind (text0_s h) (ev_pos ?_ (ev_eq rfl)))))
    rw [toList_bw, toList_bw, bw_wb, he]
  have rest : ∀ (pre : Wd) (L : List Wd), bw s = pre ++ (if kids (trie ws) 0 = [] then [] else 40 :: ((kids (trie ws) 0).flatMap (textN (trie ws)) ++ [41])) → L ++ (kids (trie ws) 0).flatMap (wordsN ws) = wordsN ws 0 →
      Ev (fun k => spec_l2Parse.l0 k s (L.map wb) (wb []) (wb []) (pre.length : Nat)) (trie ws, true) := by
    intro pre L hb hL
    have hLl : L.length + ((kids (trie ws) 0).flatMap (wordsN ws)).length ≤ 40 := by
      have := congrArg List.length hL
      rw [List.length_append] at this
      omega
    by_cases hn : kids (trie ws) 0 = []
    · rw [if_pos hn, List.append_nil] at hb
      rw [hn, List.flatMap_nil, List.append_nil] at hL
      rw [hL]
      exact fin _ _ (by rw [← bw_size, hb])
    · rw [if_neg hn] at hb
      refine open_s (p := []) (l := []) hs hb (by simp) (by simp) ?_
      have loop : ∀ (K preK : List Nat) (pre3 : Wd) (l3 : ByteArray) (L3 : List Wd), kids (trie ws) 0 = preK ++ K → bw s = pre3 ++ (K.flatMap (textN (trie ws)) ++ [41]) → L3 ++ K.flatMap (wordsN ws) = wordsN ws 0 →
          Ev (fun k => spec_l2Parse.l0 k s (L3.map wb) (wb []) l3 (pre3.length : Nat)) (trie ws, true) := by
        intro K
        induction K with
        | nil =>
          intro preK pre3 l3 L3 hk hb3 hL3
          rw [List.flatMap_nil, List.append_nil] at hL3
          have hcl := close_s (R := (trie ws, true)) hs (pre := pre3) (post := []) hb3 (p := []) (l := bw l3) (L := L3) (by simp)
          rw [wb_bw] at hcl
          refine hcl ?_
          rw [hL3]
          exact fin _ _ (by rw [← bw_size, hb3]; simp)
        | cons c K ihK =>
          intro preK pre3 l3 L3 hk hb3 hL3
          have hcm : c ∈ kids (trie ws) 0 := by rw [hk]; simp
          have hcg := kids_gt hg hcm
          have hcw := (hg.kid_word hcm).1
          rw [h0, List.nil_append] at hcw
          rw [List.flatMap_cons, List.append_assoc] at hb3
          rw [List.flatMap_cons] at hL3
          have hLl3 : L3.length + (wordsN ws c).length ≤ 40 := by
            have := congrArg List.length hL3
            rw [List.length_append, List.length_append] at this
            omega
          refine seg_s h hs _ c (Nat.sub_le _ _) hcg.2 hcg.1 [] pre3 _ l3 L3 hb3 (by rw [hcw]; rfl) (by omega) (fun l' => ?_)
          have := ihK (preK ++ [c]) (pre3 ++ textN (trie ws) c) l' (L3 ++ wordsN ws c) (by rw [hk]; simp) (by rw [hb3]; simp) (by rw [List.append_assoc]; exact hL3)
          rw [List.length_append] at this
          exact this
      have := loop (kids (trie ws) 0) [] (pre ++ [40]) (⟨#[]⟩ : ByteArray) L rfl (by rw [hb]; simp) hL
      rw [List.length_append] at this
      exact this
  by_cases hm : ([] : Wd) ∈ ws
  · rw [if_pos hm] at hwd
    rw [decide_eq_true hm, if_pos rfl] at htx
    refine dot_s (pre := []) (p := []) (l := []) (L := []) hs (by rw [he, htx]; rfl) (by simp) (by simp) (by simp) ?_
    exact rest [46] [[]] (by rw [he, htx]) hwd.symm
  · rw [if_neg hm] at hwd
    rw [decide_eq_false hm, if_neg (by decide)] at htx
    exact rest [] [] (by rw [he, htx]) hwd.symm
end
/-! ### any other text -/
/-- No valid trie's text. -/
def Odd (s : ByteArray) : Prop := ∀ ws, WOk ws → bw s ≠ textW ws
theorem bt_nat {s : ByteArray} {i : Nat} (hi : i < s.size) : ∃ b : UInt8, bt s (i : Int) = (b.toNat : Int) ∧ s.extract i (i + 1) = wb [b] ∧ b ∈ bw s := by
  have hl : i < (bw s).length := by rw [bw_size]; exact hi
  have e : bw s = (bw s).take i ++ (bw s)[i] :: (bw s).drop (i + 1) := by rw [List.getElem_cons_drop, List.take_append_drop]
  have hp : ((bw s).take i).length = i := by rw [List.length_take]; omega
  obtain ⟨hb, _⟩ := bt_at_len e
  rw [hp] at hb
  refine ⟨(bw s)[i], hb, bw_inj ?_, List.getElem_mem hl⟩
  rw [bw_wb, extract_take, List.take_add_one, List.getElem?_eq_getElem hl]
  rw [List.drop_left' hp]
  rfl
theorem odd_s {s : ByteArray} (ho : Odd s) : Ev (fun k => spec_l2Parse.f k s) ([], false) := by
  unfold spec_l2Parse.f
  refine ev_ite (fun _ => ev_eq rfl) (fun hs => ?_)
  have key : ∀ d i, s.size - i = d → i ≤ s.size → ∀ (L : List ByteArray) (p l : ByteArray), L.length ≤ i → (∀ x ∈ L, x.size ≤ i) → p.size + l.size ≤ i → Ev (fun k => spec_l2Parse.l0 k s L p l (i : Nat)) ([], false) := by
    intro d
    induction d with
    | zero =>
      intro i hd hi L p l hL hLs hpl
      refine Ev.step (fun k => by unfold spec_l2Parse.l0; rfl) (ev_neg (by omega) ?_)
      refine Ev.bind (l2Set_ev L (by omega) (fun x hx => by have := hLs x hx; omega)) ?_
      unfold refSet
      by_cases hall : ∀ w ∈ L.map bw, okW w
      · rw [if_pos hall]
        refine ev_ite (fun hc => ?_) (fun _ => ev_eq rfl)
        have hle : (setW (L.map bw)).length ≤ 40 := of_decide_eq_true hc
        have hw := wok_set hall hle
        refine Ev.bind (l2Of_ev (setW (L.map bw)) (by omega) (fun w hx => by have := (hw.ok w hx).1; omega)) (Ev.bind (text0_s hw) (ev_neg ?_ (ev_eq rfl)))
        rw [toList_bw, toList_bw, bw_wb]
        exact fun e => ho _ hw e.symm
      · rw [if_neg hall]
        exact ev_neg (by decide) (ev_eq rfl)
    | succ d ih =>
      intro i hd hi L p l hL hLs hpl
      have hlt : i < s.size := by omega
      obtain ⟨b, hb, hex, _⟩ := bt_nat hlt
      refine Ev.step (fun k => by unfold spec_l2Parse.l0; rfl) (ev_pos (by omega) (ev_pos (by omega) ?_))
      rw [hb, inc (by omega), Int.toNat_natCast, Int.toNat_natCast, hex]
      have hsz : (wb [b]).size = 1 := wb_size _
      have e0 : (⟨#[]⟩ : ByteArray).size = 0 := rfl
      refine ev_ite (fun _ => ev_pos (by omega) (ev_pos (by omega) (ih (i + 1) (by omega) (by omega) _ _ _ (by rw [List.length_append, List.length_singleton]; omega) (fun x hx => ?_) (by omega)))) (fun _ => ?_)
      · rcases List.mem_append.1 hx with hx | hx
        · have := hLs x hx; omega
        · rw [List.mem_singleton.1 hx, ByteArray.size_append]; omega
      refine ev_ite (fun _ => ev_pos (by omega) (ih (i + 1) (by omega) (by omega) _ _ _ (by omega) (fun x hx => by have := hLs x hx; omega) (by rw [ByteArray.size_append]; omega))) (fun _ => ?_)
      refine ev_ite (fun _ => ev_ite (fun _ => ih (i + 1) (by omega) (by omega) _ _ _ (by omega) (fun x hx => by have := hLs x hx; omega) (by omega)) (fun hn => ?_)) (fun _ => ?_)
      · have hp : 0 < p.size := by
          rcases Nat.eq_zero_or_pos p.size with h | h
          · exact absurd (by rw [toList_bw]; exact List.length_eq_zero_iff.1 (by rw [bw_size, h])) hn
          · exact h
        rw [w64 (x := (p.size : Int) - 1) (by omega) (by omega), show ((p.size : Int) - 1).toNat = p.size - 1 by omega]
        refine ev_pos (by omega) (ev_pos (by omega) (ih (i + 1) (by omega) (by omega) _ _ _ (by omega) (fun x hx => by have := hLs x hx; omega) ?_))
        rw [ByteArray.size_extract, ByteArray.size_extract]; omega
      · exact ev_pos (by omega) (ev_pos (by omega) (ih (i + 1) (by omega) (by omega) _ _ _ (by omega) (fun x hx => by have := hLs x hx; omega) (by omega)))
  exact key _ 0 rfl (Nat.zero_le _) [] _ _ (Nat.zero_le _) (fun x hx => by cases hx) (Nat.zero_le _)
/-- The ways kept: rising, each within the word. -/
structure Way (way : List Int) (w : ByteArray) : Prop where
  up : way.Pairwise (· ≤ ·)
  low : ∀ x ∈ way, 0 ≤ x
  top : ∀ x ∈ way, x ≤ (w.size : Int)
theorem rd_last {way : List Int} (h : 0 < way.length) : rd way ((way.length : Int) - 1) ∈ way ∧ ∀ x ∈ way.take (way.length - 1), ∀ (_ : way.Pairwise (· ≤ ·)), x ≤ rd way ((way.length : Int) - 1) := by
  have e : ((way.length : Int) - 1) = ((way.length - 1 : Nat) : Int) := by omega
  have hr : rd way ((way.length : Int) - 1) = way[way.length - 1] := by
    rw [e]
    unfold rd
    rw [Int.toNat_natCast, List.getD_eq_getElem?_getD, List.getElem?_eq_getElem (by omega), Option.getD_some]
  rw [hr]
  refine ⟨List.getElem_mem _, fun x hx hp => ?_⟩
  obtain ⟨i, hi, rfl⟩ := List.getElem_of_mem hx
  rw [List.length_take] at hi
  rw [List.getElem_take]
  exact List.pairwise_iff_getElem.1 hp i (way.length - 1) (by omega) (by omega) (by omega)
theorem Way.last {way : List Int} {w : ByteArray} (hy : Way way w) (h : 0 < way.length) : ∃ n : Nat, rd way ((way.length : Int) - 1) = (n : Int) ∧ n ≤ w.size ∧ ∀ v : ByteArray, n ≤ v.size → Way way v := by
  obtain ⟨hm, _⟩ := rd_last h
  have h1 := hy.low _ hm
  have h2 := hy.top _ hm
  refine ⟨(rd way ((way.length : Int) - 1)).toNat, by omega, by omega, fun v hv => ⟨hy.up, hy.low, fun x hx => ?_⟩⟩
  obtain ⟨i, hi, rfl⟩ := List.getElem_of_mem hx
  have e : ((way.length : Int) - 1) = ((way.length - 1 : Nat) : Int) := by omega
  have hr : rd way ((way.length : Int) - 1) = way[way.length - 1] := by rw [e]; unfold rd; rw [Int.toNat_natCast, List.getD_eq_getElem?_getD, List.getElem?_eq_getElem (by omega), Option.getD_some]
  rw [hr] at hv h1
  rcases Nat.lt_or_ge i (way.length - 1) with hlt | hge
  · have := List.pairwise_iff_getElem.1 hy.up i (way.length - 1) (by omega) (by omega) hlt
    omega
  · obtain rfl : i = way.length - 1 := by omega
    omega
theorem Way.pop {way : List Int} {w : ByteArray} (hy : Way way w) (h : 0 < way.length) {v : ByteArray} (hv : (v.size : Int) = rd way ((way.length : Int) - 1)) : Way (way.take (way.length - 1)) v :=
  ⟨hy.up.sublist (List.take_sublist _ _), fun x hx => hy.low x (List.mem_of_mem_take hx), fun x hx => by rw [hv]; exact (rd_last h).2 x hx hy.up⟩
theorem odd_i {s : ByteArray} (hs : s.size ≤ 1000000000) (ho : Odd s) : Ev (fun k => impl_ParseTrie.f k s) ([], false) := by
  unfold impl_ParseTrie.f
  have key : ∀ d i, s.size - i = d → i ≤ s.size → ∀ (way : List Int) (w : ByteArray) (L : List ByteArray), Way way w → way.length ≤ 12 → okW (bw w) → L.length ≤ 40 → (∀ x ∈ L.map bw, okW x) → Ev (fun k => impl_ParseTrie.l0 k s way w L (s.size : Int) (i : Nat)) ([], false) := by
    intro d
    induction d with
    | zero =>
      intro i hd hi way w L hy hyl hw hL hok
      refine Ev.step (fun k => by unfold impl_ParseTrie.l0; rfl) (ev_neg (by omega) ?_)
      refine Ev.bind (ofWords_i L (by omega) hok) ?_
      unfold ofR
      by_cases hle : (setW (L.map bw)).length ≤ 40
      · have hws := wok_set hok hle
        rw [if_pos hle]
        refine ev_pos rfl (Ev.bind (text0_i hws) (ev_neg ?_ (ev_eq rfl)))
        rw [toList_bw, toList_bw, bw_wb]
        exact fun e => ho _ hws e.symm
      · rw [if_neg hle]
        exact ev_neg (by decide) (ev_eq rfl)
    | succ d ih =>
      intro i hd hi way w L hy hyl hw hL hok
      have hlt : i < s.size := by omega
      obtain ⟨b, hb, hex, _⟩ := bt_nat hlt
      have hws : w.size ≤ 12 := by rw [← bw_size]; exact hw.1
      refine Ev.step (fun k => by unfold impl_ParseTrie.l0; rfl) (ev_pos (by omega) (ev_pos (by omega) (ev_pos (by omega) ?_)))
      rw [hb, inc (i := i) (by omega)]
      refine ev_ite (fun _ => ev_pos (by omega) (ev_some (ev_ite (fun _ => ev_eq rfl) (fun _ => ev_ite (fun _ => ev_eq rfl) (fun h2 => ev_ite (fun _ => ev_eq rfl) (fun _ => ?_)))))) (fun _ => ?_)
      · refine ih (i + 1) (by omega) (by omega) _ _ _ hy hyl hw (by omega) (fun x hx => ?_)
        rw [List.map_append] at hx
        rcases List.mem_append.1 hx with hx | hx
        · exact hok x hx
        · rw [List.map_singleton, List.mem_singleton] at hx
          rw [hx]; exact hw
      refine ev_ite (fun _ => ev_pos (by omega) (ev_some (ev_ite (fun _ => ev_eq rfl) (fun _ => ev_ite (fun _ => ev_eq rfl) (fun _ => ev_ite (fun _ => ev_eq rfl) (fun h3 => ?_)))))) (fun _ => ?_)
      · refine ih (i + 1) (by omega) (by omega) _ _ _ ⟨?_, ?_, ?_⟩ (by omega) hw hL hok
        · rw [List.pairwise_append]
          exact ⟨hy.up, List.pairwise_singleton _ _, fun x hx y hy' => by rw [List.mem_singleton.1 hy']; exact hy.top x hx⟩
        · intro x hx
          rcases List.mem_append.1 hx with hx | hx
          · exact hy.low x hx
          · rw [List.mem_singleton.1 hx]; omega
        · intro x hx
          rcases List.mem_append.1 hx with hx | hx
          · exact hy.top x hx
          · rw [List.mem_singleton.1 hx]; omega
      have j2 : ∀ c : Bool, c = decide ((way.length : Int) > 0) ∨ c = false → (c = true → 97 ≤ b.toNat ∧ b.toNat ≤ 122) → Ev (fun k => impl_ParseTrie.j2 k s way w L (i : Nat) (s.size : Int) (i : Nat) c) ([], false) := by
        intro c hc hcb
        refine Ev.step (fun k => by unfold impl_ParseTrie.j2; rfl) (ev_ite (fun hct => ?_) (fun _ => ev_eq rfl))
        have hpos : 0 < way.length := by
          rcases hc with hc | hc
          · rw [hc, decide_eq_true_eq] at hct; omega
          · rw [hc] at hct; cases hct
        obtain ⟨n, hn, hnw, hkeep⟩ := hy.last hpos
        have hb' := hcb hct
        rw [w64 (x := (way.length : Int) - 1) (by omega) (by omega), hn, inc (i := i) (by omega), Int.toNat_natCast, Int.toNat_natCast, Int.toNat_natCast, hex]
        have hse : (w.extract 0 n).size = n := by rw [ByteArray.size_extract]; omega
        have h1 : (wb [b]).size = 1 := wb_size _
        refine ev_pos (by omega) (ev_pos (by omega) (ev_pos (by omega) (ev_pos (by omega) (ev_pos (by omega) (ev_pos (by omega) (ev_pos (by omega) (ev_pos (by omega) ?_)))))))
        refine ev_ite (fun _ => ev_eq rfl) (fun h5 => ev_ite (fun _ => ev_eq rfl) (fun _ => ev_ite (fun _ => ev_eq rfl) (fun _ => ?_)))
        rw [ByteArray.size_append] at h5
        refine ih (i + 1) (by omega) (by omega) _ _ _ (hkeep _ (by rw [ByteArray.size_append]; omega)) hyl ⟨?_, ?_⟩ hL hok
        · rw [bw_size, ByteArray.size_append]; omega
        · intro x hx
          rw [bw_append] at hx
          rcases List.mem_append.1 hx with hx | hx
          · rw [extract_take] at hx
            exact hw.2 x (List.mem_of_mem_take (List.mem_of_mem_drop hx))
          · rw [bw_wb, List.mem_singleton] at hx
            rw [hx]; exact hb'
      have j1 : ∀ c : Bool, c = decide ((way.length : Int) > 0) ∨ c = false → Ev (fun k => impl_ParseTrie.j1 k s way w L (i : Nat) (b.toNat : Int) (s.size : Int) (i : Nat) c) ([], false) := by
        intro c hc
        refine Ev.step (fun k => by unfold impl_ParseTrie.j1; rfl) (ev_ite (fun hct => ?_) (fun _ => ?_))
        · have hpos : 0 < way.length := by
            rcases hc with hc | hc
            · rw [hc, decide_eq_true_eq] at hct; omega
            · rw [hc] at hct; cases hct
          obtain ⟨n, hn, hnw, _⟩ := hy.last hpos
          have hse : (w.extract 0 n).size = n := by rw [ByteArray.size_extract]; omega
          have hpop := hy.pop hpos (v := w.extract 0 n) (by rw [hse, hn])
          rw [w64 (x := (way.length : Int) - 1) (by omega) (by omega), hn, inc (i := i) (by omega), Int.toNat_natCast, show ((way.length : Int) - 1).toNat = way.length - 1 by omega]
          refine ev_pos (by omega) (ev_pos (by omega) (ev_pos (by omega) (ev_pos (by omega) (ev_pos (by omega) (ev_some ?_)))))
          refine ev_ite (fun _ => ev_eq rfl) (fun _ => ev_ite (fun _ => ev_eq rfl) (fun _ => ev_ite (fun _ => ev_eq rfl) (fun _ => ?_)))
          refine ih (i + 1) (by omega) (by omega) _ _ _ hpop (by rw [List.length_take]; omega) ⟨by rw [bw_size]; omega, fun x hx => ?_⟩ hL hok
          rw [extract_take] at hx
          exact hw.2 x (List.mem_of_mem_take (List.mem_of_mem_drop hx))
        · refine ev_ite (fun h6 => ev_ite (fun h7 => j2 _ (.inl rfl) (fun _ => by omega)) (fun _ => j2 _ (.inr rfl) (fun h => by cases h))) (fun _ => j2 _ (.inr rfl) (fun h => by cases h))
      exact ev_ite (fun _ => j1 _ (.inl rfl)) (fun _ => j1 _ (.inr rfl))
  exact key _ 0 rfl (Nat.zero_le _) [] _ [] ⟨List.Pairwise.nil, fun x hx => (by cases hx), fun x hx => (by cases hx)⟩ (by simp) ⟨by simp [bw], by simp [bw]⟩ (by simp) (fun x hx => by cases hx)
/-- What reading a text answers. -/
theorem read_cases (s : ByteArray) (hs : s.size ≤ 1000000000) : (∃ ws, WOk ws ∧ bw s = textW ws ∧ Ev (fun k => impl_ParseTrie.f k s) (trie ws, true) ∧ Ev (fun k => spec_ParseTrie.f k s) (trie ws, true)) ∨
    (Odd s ∧ Ev (fun k => impl_ParseTrie.f k s) ([], false) ∧ Ev (fun k => spec_ParseTrie.f k s) ([], false)) := by
  unfold spec_ParseTrie.f
  by_cases h : ∃ ws, WOk ws ∧ bw s = textW ws
  · obtain ⟨ws, h1, h2⟩ := h
    exact .inl ⟨ws, h1, h2, read_i h1 hs h2, Ev.bind (read_s h1 hs h2) (ev_eq rfl)⟩
  · have ho : Odd s := fun ws h1 h2 => h ⟨ws, h1, h2⟩
    exact .inr ⟨ho, odd_i hs ho, Ev.bind (odd_s ho) (ev_eq rfl)⟩
end Go.Proofs.YtcplbbflfgckbaaGreatDoor.Pl
set_option linter.unusedVariables false
set_option linter.unusedSimpArgs false
namespace Go.Proofs.YtcplbbflfgckbaaGreatDoor.Pure
open Go.RowKit Go.Proofs.YtcplbbflfgckbaaGreatDoorW.PrintWords Go.Proofs.YtcplbbflfgckbaaGreatDoorW.PrintLast Go.Proofs.YtcplbbflfgckbaaGreatDoorW.PrintMore Go.Proofs.YtcplbbflfgckbaaGreatDoor.X Go.Proofs.YtcplbbflfgckbaaGreatDoor.Pl
theorem map_filter_wb (ws : List Wd) (p : Wd → Bool) (q : ByteArray → Bool) (h : ∀ w, q (wb w) = p w) : (ws.map wb).filter q = (ws.filter p).map wb := by
  rw [List.filter_map]
  congr 1
  exact List.filter_congr (fun w _ => h w)
theorem dropM_of {F : ByteArray → Option Bool} {p : ByteArray → Bool} : ∀ {l : List ByteArray}, (∀ z ∈ l, F z = some (p z)) → G.dropM F l = some (l.filter fun z => !p z)
  | [], _ => rfl
  | x :: l, h => by
    unfold G.dropM
    rw [h x List.mem_cons_self, Option.bind_some, dropM_of (fun z hz => h z (List.mem_cons_of_mem _ hz)), Option.bind_some, List.filter_cons]
    cases p x <;> rfl
/-- What stays of words of which those go that are not so. -/
theorem del_words {ws : List Wd} (hl : ws.length ≤ 100000) {F : ByteArray → Option Bool} {p : Wd → Bool} (hF : ∀ w ∈ ws, F (wb w) = some (!p w)) : slices_DeleteFunc_string_string.f (ws.map wb) F = some ((ws.filter p).map wb) := by
  unfold slices_DeleteFunc_string_string.f
  rw [if_neg (by rw [List.length_map]; omega), dropM_of (p := fun z => !p (bw z)) (fun z hz => by
    obtain ⟨w, hw, rfl⟩ := List.mem_map.1 hz
    rw [hF w hw, bw_wb])]
  congr 1
  exact map_filter_wb ws _ _ (fun w => by rw [bw_wb, Bool.not_not])
variable {ws : List Wd}
/-! ### rows told apart -/
theorem rTexts_ev (a : List ByteArray) (ha : a.length ≤ 1000000) : Ev (fun k => laws_rTexts.f k a a) true := by
  unfold laws_rTexts.f
  refine ev_pos rfl ?_
  have key : ∀ d i, a.length - i = d → i ≤ a.length → Ev (fun k => laws_rTexts.l0 k a a (i : Nat)) true := by
    intro d
    induction d with
    | zero => exact fun i hd hi => Ev.step (fun k => by unfold laws_rTexts.l0; rfl) (ev_neg (by omega) (ev_eq rfl))
    | succ d ih =>
      intro i hd hi
      refine Ev.step (fun k => by unfold laws_rTexts.l0; rfl) (ev_pos (by omega) (ev_pos (by omega) (ev_pos (by omega) (ev_pos rfl ?_))))
      rw [inc (by omega)]
      exact ih (i + 1) (by omega) (by omega)
  exact key _ 0 rfl (Nat.zero_le _)
theorem rTrie_ev (a : List ND) (ha : a.length ≤ 1000000) : Ev (fun k => laws_rTrie.f k a a) true := by
  unfold laws_rTrie.f
  refine ev_pos rfl ?_
  have key : ∀ d i, a.length - i = d → i ≤ a.length → Ev (fun k => laws_rTrie.l0 k (i : Nat) a a) true := by
    intro d
    induction d with
    | zero => exact fun i hd hi => Ev.step (fun k => by unfold laws_rTrie.l0; rfl) (ev_neg (by omega) (ev_eq rfl))
    | succ d ih =>
      intro i hd hi
      refine Ev.step (fun k => by unfold laws_rTrie.l0; rfl) (ev_pos (by omega) (ev_pos (by omega) (ev_pos (by omega) (ev_neg (by simp) ?_))))
      rw [inc (by omega)]
      exact ih (i + 1) (by omega) (by omega)
  exact key _ 0 rfl (Nat.zero_le _)
/-! ### adding -/
theorem ins_set (h : WOk ws) (w : Wd) : ins ws w = setW (ws ++ [w]) :=
  (ins_SS h.ss w).ext (setW_SS _) (fun x => by rw [mem_ins, mem_setW, List.mem_append, List.mem_singleton]; exact Or.comm)
def addR (ws : List Wd) (w : Wd) : List ND × Bool := if okW w then ofR (ws ++ [w]) else ([], false)
theorem ok_add (h : WOk ws) {w : Wd} (hw : okW w) : ∀ x ∈ ws ++ [w], okW x := fun x hx => (List.mem_append.1 hx).elim (h.ok x) (fun e => by rw [List.mem_singleton.1 e]; exact hw)
theorem add_i (h : WOk ws) (w : ByteArray) (hw : w.size ≤ 1000) : Ev (fun k => impl_AddWord.f k (trie ws) w) (addR ws (bw w)) := by
  have hlen := h.len
  have hle := h.le
  unfold impl_AddWord.f
  refine Ev.bind (areKept_ev (trie ws) (by omega) w (by omega)) ?_
  rw [h.isT, Bool.true_and]
  unfold addR
  by_cases ho : okW (bw w)
  · rw [if_pos ho, decide_eq_true ho]
    refine ev_pos rfl (Ev.bind h.words (ev_pos (by rw [List.length_map]; omega) ?_))
    have e : ws.map wb ++ [w] = (ws ++ [bw w]).map wb := by rw [List.map_append, List.map_singleton, wb_bw]
    have := ofWords_i ((ws ++ [bw w]).map wb) (by rw [List.length_map, List.length_append, List.length_singleton]; omega) (by rw [bw_map_wb]; exact ok_add h ho)
    rw [bw_map_wb] at this
    rw [e]
    exact Ev.bind this (ev_eq rfl)
  · rw [if_neg ho, decide_eq_false ho]
    exact ev_neg (by decide) (ev_eq rfl)
theorem add_s (h : WOk ws) (w : ByteArray) (hw : w.size ≤ 1000) : Ev (fun k => spec_AddWord.f k (trie ws) w) (addR ws (bw w)) := by
  have hle := h.le
  unfold spec_AddWord.f
  refine Ev.bind h.l2Trie (ev_pos rfl (Ev.bind (l2Word_ev w (by omega)) (Ev.step (fun k => by unfold spec_AddWord.j0; rfl) ?_)))
  unfold addR
  by_cases ho : okW (bw w)
  · rw [if_pos ho, decide_eq_true ho]
    refine ev_neg (by decide) (Ev.bind h.l2Words ?_)
    have hp := l2Put_ev (ws.map wb) w (by rw [List.length_map]; omega) (fun x hx => by
      obtain ⟨v, hv, rfl⟩ := List.mem_map.1 hx
      have := h.size hv
      rw [wb_size]; omega) (by omega)
    rw [bw_map_wb, ins_set h] at hp
    refine Ev.bind hp ?_
    unfold ofR
    rw [List.length_map]
    by_cases hl : (setW (ws ++ [bw w])).length ≤ 40
    · rw [if_pos hl]
      refine ev_neg (by omega) (Ev.bind (l2Of_ev _ (by omega) (fun v hv => by have := ((wok_set (ok_add h ho) hl).ok v hv).1; omega)) (ev_eq rfl))
    · rw [if_neg hl]
      exact ev_pos (by omega) (ev_eq rfl)
  · rw [if_neg ho, decide_eq_false ho]
    exact ev_pos rfl (ev_eq rfl)
/-! ### dropping -/
theorem l2Place_no (l : List ByteArray) (x : ByteArray) (hl : l.length ≤ 1000000) (hx : bw x ∉ l.map bw) : Ev (fun k => spec_l2Place.f k l x) (-1) := by
  unfold spec_l2Place.f
  have key : ∀ d i, l.length - i = d → i ≤ l.length → Ev (fun k => spec_l2Place.l0 k l x (i : Nat)) (-1) := by
    intro d
    induction d with
    | zero => exact fun i hd hi => Ev.step (fun k => by unfold spec_l2Place.l0; rfl) (ev_neg (by omega) (ev_eq rfl))
    | succ d ih =>
      intro i hd hi
      refine Ev.step (fun k => by unfold spec_l2Place.l0; rfl) (ev_pos (by omega) (ev_pos (by omega) (ev_neg ?_ ?_)))
      · rw [toList_bw, toList_bw]
        intro e
        exact hx (by rw [← e]; exact List.mem_map_of_mem (getD_mem (by omega) _))
      · rw [inc (by omega)]
        exact ih (i + 1) (by omega) (by omega)
  exact key _ 0 rfl (Nat.zero_le _)
def dropL (ws : List Wd) (w : Wd) : List Wd := ws.filter (· != w)
def dropR (ws : List Wd) (w : Wd) : List ND × Bool := if okW w ∧ w ∈ ws then (trie (dropL ws w), true) else ([], false)
theorem wok_drop (h : WOk ws) (w : Wd) : WOk (dropL ws w) := ⟨h.ss.filter _, fun x hx => h.ok x (List.mem_filter.1 hx).1, Nat.le_trans (List.length_filter_le _ _) h.le⟩
theorem mem_drop {w x : Wd} : x ∈ dropL ws w ↔ x ∈ ws ∧ x ≠ w := by unfold dropL; rw [List.mem_filter, bne_iff_ne]
theorem drop_erase (h : WOk ws) (w : Wd) : dropL ws w = ws.take (ws.idxOf w) ++ ws.drop (ws.idxOf w + 1) := by
  unfold dropL
  rw [← h.ss.nodup.erase_eq_filter, List.erase_eq_eraseIdx_of_idxOf rfl, List.eraseIdx_eq_take_drop_succ]
theorem drop_i (h : WOk ws) (w : ByteArray) (hw : w.size ≤ 1000) : Ev (fun k => impl_DropWord.f k (trie ws) w) (dropR ws (bw w)) := by
  have hlen := h.len
  have hle := h.le
  unfold impl_DropWord.f
  refine Ev.bind (areKept_ev (trie ws) (by omega) w (by omega)) ?_
  rw [h.isT, Bool.true_and]
  unfold dropR
  by_cases ho : okW (bw w)
  · rw [decide_eq_true ho]
    refine ev_pos rfl (Ev.bind (h.has w) (Ev.step (fun k => by unfold impl_DropWord.j0; rfl) ?_))
    by_cases hm : bw w ∈ ws
    · rw [if_pos ⟨ho, hm⟩, decide_eq_true hm]
      have hdel : slices_DeleteFunc_string_string.f (ws.map wb) (fun z_ => impl_DropWord_1.f z_ w) = some ((dropL ws (bw w)).map wb) := by
        refine del_words (p := (· != bw w)) (by omega) (fun v _ => ?_)
        unfold impl_DropWord_1.f
        rw [toList_bw, toList_bw, bw_wb, bne, Bool.not_not]
      refine ev_neg (by decide) (Ev.bind h.words (Ev.bind (ev_of hdel) (Ev.bind (trieOf_ev _ ?_ ?_ ?_) (ev_eq rfl))))
      · have := (wok_drop h (bw w)).le; omega
      · exact (wok_drop h (bw w)).ss.imp (fun h => (le_iff _ _).2 (.inl h))
      · exact fun x hx => by have := (wok_drop h (bw w)).size hx; omega
    · rw [if_neg (fun e => hm e.2), decide_eq_false hm]
      exact ev_pos rfl (ev_eq rfl)
  · rw [if_neg (fun e => ho e.1), decide_eq_false ho]
    exact ev_neg (by decide) (Ev.step (fun k => by unfold impl_DropWord.j0; rfl) (ev_pos rfl (ev_eq rfl)))
theorem drop_s (h : WOk ws) (w : ByteArray) (hw : w.size ≤ 1000) : Ev (fun k => spec_DropWord.f k (trie ws) w) (dropR ws (bw w)) := by
  have hle := h.le
  unfold spec_DropWord.f
  refine Ev.bind h.l2Trie (ev_pos rfl (Ev.bind (l2Word_ev w (by omega)) (Ev.step (fun k => by unfold spec_DropWord.j0; rfl) ?_)))
  unfold dropR
  by_cases ho : okW (bw w)
  · rw [decide_eq_true ho]
    refine ev_neg (by decide) (Ev.bind h.l2Words ?_)
    by_cases hm : bw w ∈ ws
    · rw [if_pos ⟨ho, hm⟩]
      have hpl := l2Place_ev (ws.map wb) w (by rw [List.length_map]; omega) (by rw [bw_map_wb]; exact hm)
      rw [bw_map_wb] at hpl
      have hix := List.idxOf_lt_length_of_mem hm
      refine Ev.bind hpl (ev_neg (by omega) (ev_pos (by omega) (ev_pos (by rw [List.length_map]; omega) ?_)))
      rw [Int.toNat_natCast, l2Own_eq (by rw [List.length_take, List.length_map]; omega), inc (by omega), Int.toNat_natCast]
      refine ev_some (ev_pos (by omega) (ev_pos (by rw [List.length_map]; omega) (ev_some (ev_pos (by rw [List.length_take, List.length_drop, List.length_map]; omega) ?_))))
      rw [← List.map_take, ← List.map_drop, ← List.map_append, ← drop_erase h]
      exact Ev.bind (l2Of_ev _ (by have := (wok_drop h (bw w)).le; omega) (fun x hx => by have := (wok_drop h (bw w)).size hx; omega)) (ev_eq rfl)
    · rw [if_neg (fun e => hm e.2)]
      exact Ev.bind (l2Place_no _ w (by rw [List.length_map]; omega) (by rw [bw_map_wb]; exact hm)) (ev_pos (by decide) (ev_eq rfl))
  · rw [if_neg (fun e => ho e.1), decide_eq_false ho]
    exact ev_pos rfl (ev_eq rfl)
/-! ### asking -/
def hasR (ws : List Wd) (w : Wd) : Bool × Bool := if okW w then (decide (w ∈ ws), true) else (false, false)
theorem has_i (h : WOk ws) (w : ByteArray) (hw : w.size ≤ 1000) : Ev (fun k => impl_HasWord.f k (trie ws) w) (hasR ws (bw w)) := by
  have hlen := h.len
  unfold impl_HasWord.f
  refine Ev.bind (areKept_ev (trie ws) (by omega) w (by omega)) ?_
  rw [h.isT, Bool.true_and]
  unfold hasR
  by_cases ho : okW (bw w)
  · rw [if_pos ho, decide_eq_true ho]; exact ev_pos rfl (Ev.bind (h.has w) (ev_eq rfl))
  · rw [if_neg ho, decide_eq_false ho]; exact ev_neg (by decide) (ev_eq rfl)
theorem has_s (h : WOk ws) (w : ByteArray) (hw : w.size ≤ 1000) : Ev (fun k => spec_HasWord.f k (trie ws) w) (hasR ws (bw w)) := by
  unfold spec_HasWord.f
  refine Ev.bind h.l2Trie (ev_pos rfl (Ev.bind (l2Word_ev w (by omega)) (Ev.step (fun k => by unfold spec_HasWord.j0; rfl) ?_)))
  unfold hasR
  by_cases ho : okW (bw w)
  · rw [if_pos ho, decide_eq_true ho]; exact ev_neg (by decide) (Ev.bind h.l2Words (Ev.bind (h.l2Has w) (ev_eq rfl)))
  · rw [if_neg ho, decide_eq_false ho]; exact ev_pos rfl (ev_eq rfl)
/-! ### no trie -/
theorem noKept {t : List ND} (ht : t.length ≤ 482) (h : isT t = false) (w : ByteArray) (hw : w.size ≤ 1000) : Ev (fun k => impl_areKept.f k t w) false := by
  have := areKept_ev t (by omega) w (by omega)
  rwa [h, Bool.false_and] at this
theorem add_i0 {t : List ND} (ht : t.length ≤ 482) (h : isT t = false) (w : ByteArray) (hw : w.size ≤ 1000) : Ev (fun k => impl_AddWord.f k t w) ([], false) := by
  unfold impl_AddWord.f
  exact Ev.bind (noKept ht h w hw) (ev_neg (by decide) (ev_eq rfl))
theorem add_s0 {t : List ND} (ht : t.length ≤ 482) (h : isT t = false) (w : ByteArray) : Ev (fun k => spec_AddWord.f k t w) ([], false) := by
  unfold spec_AddWord.f
  exact Ev.bind (noT_s (by omega) h) (ev_neg (by decide) (Ev.step (fun k => by unfold spec_AddWord.j0; rfl) (ev_pos rfl (ev_eq rfl))))
theorem drop_i0 {t : List ND} (ht : t.length ≤ 482) (h : isT t = false) (w : ByteArray) (hw : w.size ≤ 1000) : Ev (fun k => impl_DropWord.f k t w) ([], false) := by
  unfold impl_DropWord.f
  exact Ev.bind (noKept ht h w hw) (ev_neg (by decide) (Ev.step (fun k => by unfold impl_DropWord.j0; rfl) (ev_pos rfl (ev_eq rfl))))
theorem drop_s0 {t : List ND} (ht : t.length ≤ 482) (h : isT t = false) (w : ByteArray) : Ev (fun k => spec_DropWord.f k t w) ([], false) := by
  unfold spec_DropWord.f
  exact Ev.bind (noT_s (by omega) h) (ev_neg (by decide) (Ev.step (fun k => by unfold spec_DropWord.j0; rfl) (ev_pos rfl (ev_eq rfl))))
theorem has_i0 {t : List ND} (ht : t.length ≤ 482) (h : isT t = false) (w : ByteArray) (hw : w.size ≤ 1000) : Ev (fun k => impl_HasWord.f k t w) (false, false) := by
  unfold impl_HasWord.f
  exact Ev.bind (noKept ht h w hw) (ev_neg (by decide) (ev_eq rfl))
theorem has_s0 {t : List ND} (ht : t.length ≤ 482) (h : isT t = false) (w : ByteArray) : Ev (fun k => spec_HasWord.f k t w) (false, false) := by
  unfold spec_HasWord.f
  exact Ev.bind (noT_s (by omega) h) (ev_neg (by decide) (Ev.step (fun k => by unfold spec_HasWord.j0; rfl) (ev_pos rfl (ev_eq rfl))))
/-! ### both sides, for any trie -/
theorem bothT (t : List ND) (ht : t.length ≤ 482) : ∃ (a : List ByteArray) (c : Int) (s : ByteArray),
    Ev (fun k => impl_WordsOf.f k t) (a, isT t) ∧ Ev (fun k => spec_WordsOf.f k t) (a, isT t) ∧ Ev (fun k => impl_IsTrie.f k t) (isT t) ∧ Ev (fun k => impl_CountWords.f k t) (c, isT t) ∧ Ev (fun k => spec_CountWords.f k t) (c, isT t) ∧
    Ev (fun k => impl_TrieText.f k t) (s, isT t) ∧ Ev (fun k => spec_TrieText.f k t) (s, isT t) ∧ a.length ≤ 482 ∧ (isT t = true → ∃ ws, WOk ws ∧ t = trie ws ∧ a = ws.map wb ∧ c = (a.length : Int) ∧ s = wb (textW ws)) := by
  unfold impl_WordsOf.f spec_WordsOf.f impl_IsTrie.f impl_CountWords.f spec_CountWords.f impl_TrieText.f spec_TrieText.f
  rcases isT_cases t with ⟨ws, h, rfl⟩ | h
  · rw [h.isT]
    have hle := h.le
    refine ⟨ws.map wb, ((ws.map wb).length : Int), wb (textW ws), Ev.bind h.trieT (ev_pos rfl (Ev.bind h.words (ev_eq rfl))), Ev.bind h.l2Trie (ev_pos rfl (Ev.bind h.l2Words (ev_eq rfl))), Ev.bind h.trieT (ev_eq rfl),
      Ev.bind h.trieT (ev_pos rfl (Ev.bind h.words (ev_eq rfl))), Ev.bind h.l2Trie (ev_pos rfl (Ev.bind h.l2Words (ev_eq rfl))), Ev.bind h.trieT (ev_pos rfl (Ev.bind (text0_i h) (ev_eq rfl))), Ev.bind h.l2Trie (ev_pos rfl (Ev.bind (text0_s h) (ev_eq rfl))), by rw [List.length_map]; omega, fun _ => ⟨ws, h, rfl, rfl, rfl, rfl⟩⟩
  · rw [h]
    have hi := noT_i (t := t) (by omega) h
    have hs := noT_s (t := t) (by omega) h
    exact ⟨_, _, _, Ev.bind hi (ev_neg (by decide) (ev_eq rfl)), Ev.bind hs (ev_neg (by decide) (ev_eq rfl)), Ev.bind hi (ev_eq rfl), Ev.bind hi (ev_neg (by decide) (ev_eq rfl)), Ev.bind hs (ev_neg (by decide) (ev_eq rfl)), Ev.bind hi (ev_neg (by decide) (ev_eq rfl)), Ev.bind hs (ev_neg (by decide) (ev_eq rfl)), by simp, fun h => by cases h⟩
theorem bothW (t : List ND) (ht : t.length ≤ 482) (w : ByteArray) (hw : w.size ≤ 1000) : ∃ (a d : List ND × Bool) (b : Bool × Bool),
    Ev (fun k => impl_AddWord.f k t w) a ∧ Ev (fun k => spec_AddWord.f k t w) a ∧ Ev (fun k => impl_DropWord.f k t w) d ∧ Ev (fun k => spec_DropWord.f k t w) d ∧ Ev (fun k => impl_HasWord.f k t w) b ∧ Ev (fun k => spec_HasWord.f k t w) b ∧ a.1.length ≤ 482 ∧ d.1.length ≤ 482 ∧
    b.2 = (isT t && decide (okW (bw w))) ∧ d.2 = (b.2 && b.1) ∧ (a.2 = true → ∃ ws, WOk ws ∧ t = trie ws ∧ okW (bw w) ∧ a.1 = trie (setW (ws ++ [bw w])) ∧ WOk (setW (ws ++ [bw w])) ∧ b = (decide (bw w ∈ ws), true)) ∧
    (d.2 = true → ∃ ws, WOk ws ∧ t = trie ws ∧ okW (bw w) ∧ bw w ∈ ws ∧ d.1 = trie (dropL ws (bw w))) := by
  rcases isT_cases t with ⟨ws, h, rfl⟩ | h
  · refine ⟨addR ws (bw w), dropR ws (bw w), hasR ws (bw w), add_i h w hw, add_s h w hw, drop_i h w hw, drop_s h w hw, has_i h w hw, has_s h w hw, ?_⟩
    unfold addR dropR hasR
    rw [h.isT, Bool.true_and]
    by_cases ho : okW (bw w)
    · rw [if_pos ho, if_pos ho, decide_eq_true ho]
      refine ⟨ofR_len (ok_add h ho), ?_, rfl, ?_, fun ha => ?_, fun hd => ?_⟩
      · split
        · have := (wok_drop h (bw w)).len; show (trie _).length ≤ _; omega
        · exact Nat.zero_le _
      · by_cases hm : bw w ∈ ws
        · rw [if_pos ⟨ho, hm⟩, decide_eq_true hm]; rfl
        · rw [if_neg (fun e => hm e.2), decide_eq_false hm]; rfl
      · rcases ofR_cases (ok_add h ho) with ⟨vs, h1, h2, h3⟩ | h3
        · subst h2
          exact ⟨ws, h, rfl, ho, by rw [h3], h1, rfl⟩
        · rw [h3] at ha; cases ha
      · by_cases hm : bw w ∈ ws
        · exact ⟨ws, h, rfl, ho, hm, by rw [if_pos ⟨ho, hm⟩]⟩
        · rw [if_neg (fun e => hm e.2)] at hd; cases hd
    · rw [if_neg ho, if_neg ho, if_neg (fun e => ho e.1), decide_eq_false ho]
      exact ⟨Nat.zero_le _, Nat.zero_le _, rfl, rfl, fun e => (by cases e), fun e => (by cases e)⟩
  · exact ⟨_, _, _, add_i0 ht h w hw, add_s0 ht h w, drop_i0 ht h w hw, drop_s0 ht h w, has_i0 ht h w hw, has_s0 ht h w, Nat.zero_le _, Nat.zero_le _, by rw [h]; rfl, rfl, fun e => (by cases e), fun e => (by cases e)⟩
/-! ### the draws -/
theorem drawMake_ev {l : List Int} (hl : isCodeB l) : ∃ r, Ev (fun k => spec_DrawTrieOf.f k l) r ∧ r.length ≤ 60 ∧ ∀ w ∈ r, w.size ≤ 25 := by
  unfold spec_DrawTrieOf.f
  exact Dr.fin (words_dr hl At.zero (by omega)) fun t a s g ht => ⟨_, ev_eq rfl, ht⟩
theorem drawIs_ev {l : List Int} (hl : isCodeB l) : ∃ r, Ev (fun k => spec_DrawWordsOf.f k l) r ∧ r.length ≤ 482 := by
  have h : ∃ r, Ev (fun k => spec_DrawIsTrie.f k l) r ∧ r.length ≤ 482 := by
    unfold spec_DrawIsTrie.f
    exact Dr.fin (trie_dr hl At.zero (by omega)) fun t a s g ht => ⟨_, ev_eq rfl, ht⟩
  obtain ⟨r, h1, h2⟩ := h
  unfold spec_DrawWordsOf.f
  exact ⟨_, Ev.bind h1 (ev_eq rfl), h2⟩
theorem drawHas_ev {l : List Int} (hl : isCodeB l) : ∃ r, Ev (fun k => spec_DrawHasWord.f k l) r ∧ r.1.length ≤ 482 ∧ r.2.size ≤ 25 := by
  unfold spec_DrawHasWord.f
  refine Dr.fin (trie_dr hl At.zero (by omega)) fun t a s g ht => ?_
  exact Dr.fin (wordOf_dr hl g (by omega) t ht) fun w a s g hw => ⟨_, ev_eq rfl, ht, hw⟩
theorem drawDrop_ev {l : List Int} (hl : isCodeB l) : ∃ r, Ev (fun k => spec_DrawDropWord.f k l) r ∧ r.1.length ≤ 482 ∧ r.2.size ≤ 25 := by
  obtain ⟨r, h1, h2⟩ := drawHas_ev hl
  unfold spec_DrawDropWord.f
  exact ⟨_, Ev.bind h1 (ev_eq rfl), h2⟩
theorem drawAdd_ev {l : List Int} (hl : isCodeB l) : ∃ r, Ev (fun k => spec_DrawAddWord.f k l) r ∧ r.1.length ≤ 482 ∧ r.2.size ≤ 25 := by
  unfold spec_DrawAddWord.f
  refine Dr.fin (one_dr hl At.zero (by omega) 24) fun b a s g _ => ?_
  dsimp only
  cases b with
  | true =>
    obtain ⟨r, h1, h2⟩ := Dr.fin (full_dr hl g (s := s) (by omega)) (R := fun r : List ND × ByteArray => r.1.length ≤ 482 ∧ r.2.size ≤ 25) (G := fun k x => (spec_l1Cur_word.f k l x.2.1 x.2.2).bind fun y => some (x.1, y.1)) fun t a s g ht => Dr.fin (word_dr hl g (by omega)) fun w a s g hw => ⟨_, ev_eq rfl, ht, hw⟩
    exact ⟨r, ev_pos rfl h1, h2⟩
  | false =>
    obtain ⟨r, h1, h2⟩ := drawHas_ev hl
    exact ⟨_, ev_neg (by decide) (Ev.bind h1 (ev_eq rfl)), h2⟩
theorem drawParse_ev {l : List Int} (hl : isCodeB l) : ∃ r, Ev (fun k => spec_DrawParseTrie.f k l) r ∧ r.size ≤ 2000 := by
  unfold spec_DrawParseTrie.f
  refine Dr.fin (trie_dr hl At.zero (by omega)) fun t a s g ht => ?_
  have j0 : ∀ x : ByteArray, x.size ≤ 1500 → ∃ r, Ev (fun k => spec_DrawParseTrie.j0 k x l a s) r ∧ r.size ≤ 2000 := by
    intro x hx
    obtain ⟨r, h1, h2⟩ := Dr.fin (one_dr hl g (s := s) (by omega) 3) (R := fun r : ByteArray => r.size ≤ 2000) (G := fun _ y => if y.1 = true then ((spec_l1Cur_spoilt.f l y.2.1 y.2.2 x (⟨#[97, 98, 46, 40, 41, 32, 65]⟩ : ByteArray)).bind fun z => some z.1) else some x) fun b a s g _ => by
      cases b with
      | true =>
        obtain ⟨r, h1, h2⟩ := Dr.fin (spoilt_dr hl g (s := s) (by omega) x (⟨#[97, 98, 46, 40, 41, 32, 65]⟩ : ByteArray) (by omega) (by decide) (by decide)) (R := fun r : ByteArray => r.size ≤ 2000) (G := fun _ z => some z.1) fun w a s g hw => ⟨_, ev_eq rfl, by
          have : (⟨#[97, 98, 46, 40, 41, 32, 65]⟩ : ByteArray).size = 7 := rfl
          dsimp only
          omega⟩
        exact ⟨r, ev_pos rfl h1, h2⟩
      | false => exact ⟨x, ev_neg (by simp) (ev_eq rfl), by omega⟩
    exact ⟨r, Ev.step (fun k => by unfold spec_DrawParseTrie.j0; rfl) h1, h2⟩
  dsimp only
  rcases isT_cases t with ⟨ws, h, rfl⟩ | h
  · obtain ⟨r, h1, h2⟩ := j0 (wb (textW ws)) (by rw [wb_size]; have := textW_len h; omega)
    exact ⟨r, Ev.bind h.l2Trie (ev_pos rfl (Ev.bind (text0_s h) h1)), h2⟩
  · obtain ⟨r, h1, h2⟩ := j0 (⟨#[46, 40, 97, 46, 40, 98, 46, 41, 99, 46, 41]⟩ : ByteArray) (by decide)
    exact ⟨r, Ev.bind (noT_s (by omega) h) (ev_neg (by decide) h1), h2⟩
/-! ### the law -/
theorem bneF (b : Bool) : ¬ ((b != b) = true) := by simp
theorem FnTries : ∀ (l0 : List Int), (l0.length * 1 ≤ 140737488351232 ∧ ∀ y ∈ l0, (Lit.int .u8 y).wf = true) → ∃ k, laws_FnTries.f k l0 = some true := by
  intro l ⟨_, hl0⟩
  have hl : isCodeB l := code_of_wf' hl0
  refine Ev.rounds (r := true) ?_
  unfold laws_FnTries.f laws_rBig.f
  refine ev_some (ev_ite (fun _ => ev_eq rfl) (fun _ => ?_))
  obtain ⟨L, hd1, hL, hLs⟩ := drawMake_ev hl
  obtain ⟨t, hd2, ht⟩ := drawIs_ev hl
  obtain ⟨⟨u, p⟩, hd3, hu, hp⟩ := drawAdd_ev hl
  obtain ⟨⟨v, q⟩, hd4, hv, hq⟩ := drawDrop_ev hl
  obtain ⟨s, hd5, hs⟩ := drawParse_ev hl
  simp only at hu hp hv hq
  refine Ev.bind hd1 (Ev.bind (make_i L (by omega) (fun x hx => by have := hLs x hx; omega)) (Ev.bind (make_s L (by omega) (fun x hx => by have := hLs x hx; omega)) (ev_neg (bneF _) (Ev.bind (rTrie_ev _ (by have := makeR_len (L.map bw); omega)) ?_))))
  obtain ⟨a, c, tx, a1, a2, a3, c1, c2, x1, x2, hal, ha⟩ := bothT t ht
  obtain ⟨A, dA, bA, e1, e2, _, _, e5, _, hAl, _, hb2, _, hA, _⟩ := bothW u hu p (by omega)
  obtain ⟨aD, D, bD, _, _, f3, f4, f5, f6, _, hDl, hf2, hD2, _, hD⟩ := bothW v hv q (by omega)
  -- j10
  have j10 : Ev (fun k => laws_FnTries.j10 k a (isT t) tx t) true := by
    refine Ev.step (fun k => by unfold laws_FnTries.j10; rfl) (ev_ite (fun hT => ?_) (fun _ => ev_eq rfl))
    obtain ⟨ws, h, rfl, rfl, _, rfl⟩ := ha hT
    have hlen := h.len
    have hmk := make_i (ws.map wb) (by rw [List.length_map]; have := h.le; omega) (fun x hx => by
      obtain ⟨w, hw, rfl⟩ := List.mem_map.1 hx
      have := h.size hw
      rw [wb_size]; omega)
    rw [bw_map_wb] at hmk
    unfold makeR ofR at hmk
    rw [if_pos h.ok, setW_of_SS h.ss, if_pos h.le] at hmk
    refine Ev.bind hmk (Ev.bind (read_i h (by rw [wb_size]; have := textW_len h; omega) (bw_wb _)) (ev_pos rfl (ev_pos rfl ?_)))
    exact Ev.bind (rTrie_ev (trie ws) (by omega)) (ev_pos rfl (Ev.bind (rTrie_ev (trie ws) (by omega)) (ev_eq rfl)))
  -- j9
  have j9 : Ev (fun k => laws_FnTries.j9 k a (isT t) q D.2 tx t v D.1) true := by
    refine Ev.step (fun k => by unfold laws_FnTries.j9; rfl) (ev_ite (fun hd => ?_) (fun _ => j10))
    obtain ⟨ws, h, rfl, ho, hm, e⟩ := hD hd
    have hlen := h.len
    have hw := wok_drop h (bw q)
    have hset : setW (dropL ws (bw q) ++ [bw q]) = ws := (setW_SS _).ext h.ss (fun x => by
      rw [mem_setW, List.mem_append, List.mem_singleton, mem_drop]
      constructor
      · rintro (hx | rfl)
        · exact hx.1
        · exact hm
      · intro hx
        by_cases he : x = bw q
        · exact .inr he
        · exact .inl ⟨hx, he⟩)
    have hadd := add_i hw q (by omega)
    unfold addR ofR at hadd
    rw [if_pos ho, hset, if_pos h.le] at hadd
    rw [e]
    exact Ev.bind hadd (ev_pos rfl (Ev.bind (rTrie_ev (trie ws) (by omega)) (ev_pos rfl j10)))
  -- j7
  have j7 : Ev (fun k => laws_FnTries.j7 k a (isT t) p A.2 q D.2 tx false t u A.1 v D.1) true := by
    refine Ev.step (fun k => by unfold laws_FnTries.j7; rfl) (ev_neg (by decide) (ev_ite (fun hx => ?_) (fun _ => j9)))
    obtain ⟨ws, h, rfl, ho, e, hw, eb⟩ := hA hx
    have hlen := h.len
    rw [eb] at e5
    have hmem : bw p ∈ setW (ws ++ [bw p]) := (mem_setW _ _).2 (by simp)
    have hh := has_i hw p (by omega)
    unfold hasR at hh
    rw [if_pos ho, decide_eq_true hmem] at hh
    rw [e]
    refine Ev.bind e5 (Ev.bind hh (ev_pos rfl (ev_pos rfl (Ev.step (fun k => by unfold laws_FnTries.j8; rfl) (ev_neg (by decide) ?_)))))
    have hdr := drop_i hw p (by omega)
    unfold dropR at hdr
    rw [if_pos ⟨ho, hmem⟩] at hdr
    refine Ev.bind hdr (ev_pos rfl (ev_ite (fun _ => j9) (fun hn => ?_)))
    have hnm : bw p ∉ ws := fun hm => hn (decide_eq_true hm)
    have hdl : dropL (setW (ws ++ [bw p])) (bw p) = ws := (wok_drop hw (bw p)).ss.ext h.ss (fun x => by
      rw [mem_drop, mem_setW, List.mem_append, List.mem_singleton]
      constructor
      · rintro ⟨hx | hx, hne⟩
        · exact hx
        · exact absurd hx hne
      · exact fun hx => ⟨.inl hx, fun e => hnm (by rw [← e]; exact hx)⟩)
    rw [hdl]
    exact Ev.bind (rTrie_ev (trie ws) (by omega)) (ev_pos rfl j9)
  -- j6
  have j6 : Ev (fun k => laws_FnTries.j6 k l a (isT t) p A.2 q D.2 tx false t u A.1 v D.1) true := by
    refine Ev.step (fun k => by unfold laws_FnTries.j6; rfl) (ev_neg (by decide) (Ev.bind hd5 ?_))
    rcases read_cases s (by omega) with ⟨ws, h, _, r1, r2⟩ | ⟨_, r1, r2⟩
    · have hlen := h.len
      exact Ev.bind r1 (Ev.bind r2 (ev_neg (bneF _) (Ev.bind (rTrie_ev (trie ws) (by omega)) j7)))
    · exact Ev.bind r1 (Ev.bind r2 (ev_neg (bneF _) (Ev.bind (rTrie_ev [] (by simp)) j7)))
  -- j5, j4
  have j5 : Ev (fun k => laws_FnTries.j5 k l a (isT t) p A.2 q D.2 false t u A.1 v D.1) true := by
    refine Ev.step (fun k => by unfold laws_FnTries.j5; rfl) (ev_neg (by decide) (Ev.bind x1 (Ev.bind x2 (ev_pos rfl (ev_neg (bneF _) ?_)))))
    rw [bne_self_eq_false]
    exact j6
  have j4 : Ev (fun k => laws_FnTries.j4 k l a (isT t) p A.2 q D.2 false t u A.1 v D.1) true := by
    refine Ev.step (fun k => by unfold laws_FnTries.j4; rfl) (ev_neg (by decide) (Ev.bind c1 (Ev.bind c2 (ev_pos rfl (ev_neg (bneF _) (ev_neg (bneF _) (ev_ite (fun hT => ?_) (fun _ => j5))))))))
    obtain ⟨ws, h, _, _, e, _⟩ := ha hT
    rw [e, bne_self_eq_false]
    exact j5
  -- j3
  have j3 : Ev (fun k => laws_FnTries.j3 k l a (isT t) p A.2 q D.2 false t u A.1 v D.1) true := by
    have hT := isT_cases v
    refine Ev.step (fun k => by unfold laws_FnTries.j3; rfl) (ev_neg (by decide) (Ev.bind f5 (Ev.bind f6 (ev_neg (bneF _) (ev_neg (bneF _) ?_)))))
    have his : Ev (fun k => impl_IsTrie.f k v) (isT v) := by unfold impl_IsTrie.f; exact Ev.bind (isTrie_ev v (by omega)) (ev_eq rfl)
    have hiw : impl_IsWord.f q = some (decide (okW (bw q))) := by unfold impl_IsWord.f; rw [isWord_eq q (by omega)]; rfl
    have last : Ev (fun k => if bD.2 = true then laws_FnTries.j4 k l a (isT t) p A.2 q D.2 (D.2 != bD.1) t u A.1 v D.1 else laws_FnTries.j4 k l a (isT t) p A.2 q D.2 (D.2 != false) t u A.1 v D.1) true := by
      refine ev_ite (fun hb => ?_) (fun hb => ?_)
      · rw [show D.2 = bD.1 from by rw [hD2, hb, Bool.true_and], bne_self_eq_false]
        rw [show D.2 = bD.1 from by rw [hD2, hb, Bool.true_and]] at j4
        exact j4
      · rw [show D.2 = false from by rw [hD2, Bool.eq_false_iff.2 hb, Bool.false_and], bne_self_eq_false]
        rw [show D.2 = false from by rw [hD2, Bool.eq_false_iff.2 hb, Bool.false_and]] at j4
        exact j4
    refine Ev.bind his (ev_ite (fun hv2 => ?_) (fun hv2 => ?_))
    · rw [hiw]
      exact ev_some (ev_neg (by rw [hf2, hv2]; simp) last)
    · refine ev_neg ?_ last
      rw [hf2, Bool.eq_false_iff.2 hv2]; simp
  -- j2, j1, j0
  have j2 : Ev (fun k => laws_FnTries.j2 k l a (isT t) p A.2 false t u A.1) true := by
    refine Ev.step (fun k => by unfold laws_FnTries.j2; rfl) (ev_neg (by decide) (Ev.bind hd4 (Ev.bind f3 (Ev.bind f4 (ev_neg (bneF _) (Ev.bind (rTrie_ev D.1 (by omega)) j3))))))
  have j1 : Ev (fun k => laws_FnTries.j1 k l a (isT t) false t) true := by
    refine Ev.step (fun k => by unfold laws_FnTries.j1; rfl) (ev_neg (by decide) (Ev.bind hd3 (Ev.bind e1 (Ev.bind e2 (ev_neg (bneF _) (Ev.bind (rTrie_ev A.1 (by omega)) j2))))))
  exact Ev.step (fun k => by unfold laws_FnTries.j0; rfl) (ev_neg (by decide) (Ev.bind hd2 (Ev.bind a1 (Ev.bind a2 (ev_neg (bneF _) (Ev.bind a3 (ev_neg (bneF _) (Ev.bind (rTexts_ev a (by omega)) j1))))))))
end Go.Proofs.YtcplbbflfgckbaaGreatDoor.Pure
