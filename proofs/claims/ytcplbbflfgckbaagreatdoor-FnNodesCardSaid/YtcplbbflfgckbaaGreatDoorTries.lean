/- Plain: tries: lists of nodes; the trie of words; the words of a trie. No program in it but the nodes' type. -/
import Derived.Test.YtcplbbflfgckbaaGreatDoorX0
import Derived.Test.YtcplbbflfgckbaaGreatDoorSets
set_option linter.unusedVariables false
set_option linter.unusedSimpArgs false
namespace Go.Proofs.YtcplbbflfgckbaaGreatDoor.Pl
open Go.RowKit Go.Proofs.YtcplbbflfgckbaaGreatDoorW.PrintWords Go.Proofs.YtcplbbflfgckbaaGreatDoor.X

abbrev ND := S74
instance : DecidableEq ND := fun a b => decidable_of_iff (a.f0 = b.f0 ∧ a.f1 = b.f1 ∧ a.f2 = b.f2) ⟨fun ⟨h1, h2, h3⟩ => by cases a; cases b; simp at h1 h2 h3; subst h1; subst h2; subst h3; rfl, fun h => by subst h; exact ⟨rfl, rfl, rfl⟩⟩
def zND : ND := ⟨0, 0, false⟩
/-- The letter of a node, as a byte. -/
def letterB (c : Int) : UInt8 := UInt8.ofNat (97 + c.toNat)
/-- The letter of a beginning, as a number. -/
def ltr (p : Wd) : Int := (((p.getLast?.getD 0).toNat : Int) - 97) % 256
def nodeOf (ws ps : List Wd) (p : Wd) : ND := if p = [] then ⟨-1, -1, decide (p ∈ ws)⟩ else ⟨ltr p, (ps.idxOf p.dropLast : Int), decide (p ∈ ws)⟩
/-- The trie of words. -/
def trie (ws : List Wd) : List ND := (prefs ws).map (nodeOf ws (prefs ws))
theorem trie_congr {ws vs : List Wd} (h : ∀ x, x ∈ ws ↔ x ∈ vs) : trie ws = trie vs := by
  unfold trie
  rw [prefs_congr h]
  refine List.map_congr_left fun p _ => ?_
  unfold nodeOf
  rw [show decide (p ∈ ws) = decide (p ∈ vs) from by rw [decide_eq_decide]; exact h p]
theorem trie_length (ws : List Wd) : (trie ws).length = (prefs ws).length := by simp [trie]
/-- The prefixes of nodes, each put together behind those ahead of it; none if a node is out of order. -/
def goP : List Wd → List ND → Option (List Wd)
  | out, [] => some out
  | out, n :: ns => if 0 ≤ n.f1 ∧ n.f1 < (out.length : Int) ∧ 0 ≤ n.f0 ∧ n.f0 ≤ 25 then goP (out ++ [out.getD n.f1.toNat [] ++ [letterB n.f0]]) ns else none
def prefP (t : List ND) : Option (List Wd) := if 1 ≤ t.length ∧ t.length ≤ 481 then goP [[]] (t.drop 1) else none
theorem goP_spec : ∀ {ns : List ND} {out P : List Wd}, goP out ns = some P → P.take out.length = out ∧ P.length = out.length + ns.length ∧
    ∀ j (hj : j < ns.length), 0 ≤ ns[j].f1 ∧ ns[j].f1 < ((out.length + j : Nat) : Int) ∧ 0 ≤ ns[j].f0 ∧ ns[j].f0 ≤ 25 ∧ P.getD (out.length + j) [] = P.getD ns[j].f1.toNat [] ++ [letterB ns[j].f0]
  | [], out, P, h => by
    cases h
    exact ⟨List.take_length, rfl, fun j hj => absurd hj (Nat.not_lt_zero _)⟩
  | n :: ns, out, P, h => by
    unfold goP at h
    by_cases hc : 0 ≤ n.f1 ∧ n.f1 < (out.length : Int) ∧ 0 ≤ n.f0 ∧ n.f0 ≤ 25
    case neg => rw [if_neg hc] at h; cases h
    rw [if_pos hc] at h
    obtain ⟨h1, h2, h3⟩ := goP_spec h
    rw [List.length_append, List.length_singleton] at h1 h2 h3
    have ho : P.take out.length = out := by
      have := congrArg (List.take out.length) h1
      rwa [List.take_take, List.take_left, Nat.min_eq_left (by omega)] at this
    have hat : ∀ i, i < out.length → P.getD i [] = out.getD i [] := by
      intro i hi
      rw [← ho]
      simp only [List.getD_eq_getElem?_getD]
      rw [List.getElem?_take_of_lt hi]
    refine ⟨ho, by rw [h2, List.length_cons]; omega, fun j hj => ?_⟩
    cases j with
    | zero =>
      refine ⟨hc.1, by simpa using hc.2.1, hc.2.2.1, hc.2.2.2, ?_⟩
      have e : P.getD out.length [] = out.getD n.f1.toNat [] ++ [letterB n.f0] := by
        have := congrArg (fun l => l.getD out.length []) h1
        simp only [List.getD_eq_getElem?_getD] at this
        rw [List.getElem?_take_of_lt (by omega), List.getElem?_append_right (Nat.le_refl _)] at this
        simpa using this
      rw [Nat.add_zero, e, List.getElem_cons_zero, hat _ (by omega)]
    | succ j =>
      have := h3 j (by simpa using hj)
      rw [List.getElem_cons_succ]
      rw [show out.length + (j + 1) = out.length + 1 + j by omega]
      exact this
theorem prefP_spec {t : List ND} {P : List Wd} (h : prefP t = some P) : 1 ≤ t.length ∧ t.length ≤ 481 ∧ P.length = t.length ∧ P.getD 0 [] = [] ∧
    ∀ i, 0 < i → (hi : i < t.length) → 0 ≤ t[i].f1 ∧ t[i].f1 < (i : Int) ∧ 0 ≤ t[i].f0 ∧ t[i].f0 ≤ 25 ∧ P.getD i [] = P.getD t[i].f1.toNat [] ++ [letterB t[i].f0] := by
  unfold prefP at h
  by_cases hc : 1 ≤ t.length ∧ t.length ≤ 481
  case neg => rw [if_neg hc] at h; cases h
  rw [if_pos hc] at h
  obtain ⟨h1, h2, h3⟩ := goP_spec h
  rw [List.length_singleton] at h1 h2 h3
  rw [List.length_drop] at h2
  refine ⟨hc.1, hc.2, by omega, ?_, fun i h0 hi => ?_⟩
  · have := congrArg (fun l => l.getD 0 []) h1
    simp only [List.getD_eq_getElem?_getD] at this
    rw [List.getElem?_take_of_lt (by omega)] at this
    simpa using this
  · obtain ⟨j, rfl⟩ : ∃ j, i = j + 1 := ⟨i - 1, by omega⟩
    have := h3 j (by rw [List.length_drop]; omega)
    simp only [List.getElem_drop] at this
    simp only [Nat.add_comm 1 j] at this
    exact this
/-- A word of letters. -/
def okW (w : Wd) : Prop := w.length ≤ 12 ∧ ∀ b ∈ w, 97 ≤ b.toNat ∧ b.toNat ≤ 122
theorem ltr_range {p : Wd} (h : p ≠ []) (hb : ∀ b ∈ p, 97 ≤ b.toNat ∧ b.toNat ≤ 122) : 0 ≤ ltr p ∧ ltr p ≤ 25 ∧ letterB (ltr p) = p.getLast h := by
  have e : p.getLast?.getD 0 = p.getLast h := by rw [List.getLast?_eq_some_getLast h]; rfl
  have hr := hb (p.getLast h) (List.getLast_mem h)
  have hl : ltr p = ((p.getLast h).toNat : Int) - 97 := by
    unfold ltr
    rw [e]; omega
  refine ⟨by omega, by omega, ?_⟩
  unfold letterB
  rw [hl, show 97 + (((p.getLast h).toNat : Int) - 97).toNat = (p.getLast h).toNat by omega]
  exact UInt8.ofNat_toNat
theorem prefs_okW {ws : List Wd} (h : ∀ w ∈ ws, okW w) {p : Wd} (hp : p ∈ prefs ws) : okW p := by
  rcases (mem_prefs ws p).1 hp with rfl | ⟨w, hw, hpw⟩
  · exact ⟨by simp, by simp⟩
  · have hw' := h w hw
    exact ⟨Nat.le_trans hpw.length_le hw'.1, fun b hb => hw'.2 b (hpw.subset hb)⟩
theorem trie_bound {ws : List Wd} (h : ∀ w ∈ ws, okW w) (hl : ws.length ≤ 40) : 1 ≤ (trie ws).length ∧ (trie ws).length ≤ 481 := by
  rw [trie_length]
  obtain ⟨l, e⟩ := prefs_head ws
  have h1 := prefs_length (ws := ws) (m := 12) (fun w hw => (h w hw).1)
  have h2 : (prefs ws).length = l.length + 1 := by rw [e]; rfl
  have h3 : ws.length * 12 ≤ 40 * 12 := Nat.mul_le_mul_right _ hl
  omega
/-- The prefixes of a trie of words are the words' beginnings. -/
theorem prefP_trie {ws : List Wd} (h : ∀ w ∈ ws, okW w) (hl : ws.length ≤ 40) : prefP (trie ws) = some (prefs ws) := by
  unfold prefP
  rw [if_pos (trie_bound h hl)]
  have hS := prefs_SS ws
  have key : ∀ d k, (prefs ws).length - k = d → 1 ≤ k → k ≤ (prefs ws).length → goP ((prefs ws).take k) ((trie ws).drop k) = some (prefs ws) := by
    intro d
    induction d with
    | zero =>
      intro k hd h1 hk
      rw [List.drop_of_length_le (by rw [trie_length]; omega), List.take_of_length_le (by omega)]
      rfl
    | succ d ih =>
      intro k hd h1 hk
      have hk' : k < (prefs ws).length := by omega
      have hk2 : k < (trie ws).length := by rw [trie_length]; exact hk'
      rw [List.drop_eq_getElem_cons hk2]
      have hne : (prefs ws)[k] ≠ [] := by
        intro e
        have h0 : (prefs ws)[0]'(by omega) < (prefs ws)[k] := List.pairwise_iff_getElem.1 hS 0 k (by omega) hk' (by omega)
        rw [e] at h0
        exact List.not_lt_nil _ h0
      have hn : (trie ws)[k] = nodeOf ws (prefs ws) (prefs ws)[k] := by simp [trie]
      have hmem := List.getElem_mem hk'
      have hdm := dropLast_mem hmem
      have hj := List.idxOf_lt_length_of_mem hdm
      have hjv : (prefs ws)[(prefs ws).idxOf (prefs ws)[k].dropLast] = (prefs ws)[k].dropLast := List.getElem_idxOf hj
      have hjk : (prefs ws).idxOf (prefs ws)[k].dropLast < k := hS.idx_lt hj hk' (by rw [hjv]; exact dropLast_lt hne)
      obtain ⟨r1, r2, r3⟩ := ltr_range hne (prefs_okW h hmem).2
      have hlen : ((prefs ws).take k).length = k := by rw [List.length_take]; omega
      unfold goP
      rw [hn]
      unfold nodeOf
      rw [if_neg hne]
      rw [if_pos ⟨Int.natCast_nonneg _, by rw [hlen]; exact Int.ofNat_lt.2 hjk, r1, r2⟩]
      have e : ((prefs ws).take k).getD (((prefs ws).idxOf (prefs ws)[k].dropLast : Nat) : Int).toNat [] ++ [letterB (ltr (prefs ws)[k])] = (prefs ws)[k] := by
        rw [r3, Int.toNat_natCast, List.getD_eq_getElem?_getD, List.getElem?_take_of_lt hjk, List.getElem?_eq_getElem hj, Option.getD_some, hjv]
        exact List.dropLast_concat_getLast hne
      rw [e, ← List.take_succ_eq_append_getElem hk']
      exact ih (k + 1) (by omega) (by omega) hk'
  obtain ⟨l, e⟩ := prefs_head ws
  have h1 := key _ 1 rfl (Nat.le_refl _) (by rw [e]; simp)
  rwa [show (prefs ws).take 1 = [[]] by rw [e]; rfl] at h1
/-- The words of a trie. -/
def wordsP (t : List ND) (P : List Wd) : List Wd := ((List.range t.length).filter fun i => (t.getD i zND).f2).map fun i => P.getD i []
theorem wordsP_trie {ws : List Wd} (h : SS ws) : wordsP (trie ws) (prefs ws) = ws := by
  have e : wordsP (trie ws) (prefs ws) = (prefs ws).filter fun p => decide (p ∈ ws) := by
    unfold wordsP
    rw [trie_length]
    have e1 : (List.range (prefs ws).length).filter (fun i => ((trie ws).getD i zND).f2) = (List.range (prefs ws).length).filter ((fun p => decide (p ∈ ws)) ∘ fun i => (prefs ws).getD i []) := by
      refine List.filter_congr fun i hi => ?_
      have hi := List.mem_range.1 hi
      have hi2 : i < (trie ws).length := by rw [trie_length]; exact hi
      simp only [Function.comp, List.getD_eq_getElem?_getD, List.getElem?_eq_getElem hi, List.getElem?_eq_getElem hi2, Option.getD_some]
      have hn : (trie ws)[i] = nodeOf ws (prefs ws) (prefs ws)[i] := by simp [trie]
      rw [hn]; unfold nodeOf
      split <;> rfl
    rw [e1, ← List.filter_map]
    congr 1
    refine List.ext_getElem (by simp) fun i h1 h2 => ?_
    simp [List.getD_eq_getElem?_getD, List.getElem?_eq_getElem h2]
  rw [e]
  refine SS.ext ((prefs_SS ws).filter _) h fun x => ?_
  rw [List.mem_filter, decide_eq_true_eq]
  exact ⟨fun hx => hx.2, fun hx => ⟨(mem_prefs ws x).2 (.inr ⟨x, hx, List.prefix_refl x⟩), hx⟩⟩
theorem wordsP_length (t : List ND) (P : List Wd) : (wordsP t P).length ≤ t.length := by
  unfold wordsP
  rw [List.length_map]
  exact Nat.le_trans (List.length_filter_le _ _) (by simp)
theorem wordsP_mem {t : List ND} {P : List Wd} (hl : P.length = t.length) {w : Wd} (h : w ∈ wordsP t P) : w ∈ P := by
  unfold wordsP at h
  obtain ⟨i, hi, rfl⟩ := List.mem_map.1 h
  have := List.mem_range.1 (List.mem_filter.1 hi).1
  exact getD_mem (by omega) []
/-- What prefixes are made of. -/
theorem prefP_letters {t : List ND} {P : List Wd} (h : prefP t = some P) {p : Wd} (hp : p ∈ P) : ∀ b ∈ p, 97 ≤ b.toNat ∧ b.toNat ≤ 122 := by
  obtain ⟨h1, h2, h3, h4, h5⟩ := prefP_spec h
  have key : ∀ i, i < t.length → ∀ b ∈ P.getD i [], 97 ≤ b.toNat ∧ b.toNat ≤ 122 := by
    intro i
    induction i using Nat.strongRecOn with
    | _ i ih =>
      intro hi b hb
      rcases Nat.eq_zero_or_pos i with rfl | h0
      · rw [h4] at hb; simp at hb
      · obtain ⟨a1, a2, a3, a4, a5⟩ := h5 i h0 hi
        rw [a5] at hb
        rcases List.mem_append.1 hb with hb | hb
        · exact ih _ (by omega) (by omega) b hb
        · rw [List.mem_singleton] at hb
          subst hb
          unfold letterB
          rw [UInt8.toNat_ofNat', Nat.mod_eq_of_lt (by omega)]
          omega
  obtain ⟨i, hi, rfl⟩ := List.getElem_of_mem hp
  have := key i (by omega)
  rwa [List.getD_eq_getElem?_getD, List.getElem?_eq_getElem hi, Option.getD_some] at this
/-! ### what a valid trie is -/
def IsT (t : List ND) : Prop := ∃ ws, SS ws ∧ (∀ w ∈ ws, okW w) ∧ ws.length ≤ 40 ∧ t = trie ws
open Classical in
noncomputable def isT (t : List ND) : Bool := decide (IsT t)
theorem isT_iff (t : List ND) : isT t = true ↔ IsT t := by unfold isT; simp
/-- What is known of a valid trie. -/
structure TOk (t : List ND) (P : List Wd) : Prop where
  pre : prefP t = some P
  short : ∀ p ∈ P, p.length ≤ 12
theorem IsT.ok {t : List ND} (h : IsT t) : ∃ P, TOk t P := by
  obtain ⟨ws, _, h2, h3, rfl⟩ := h
  exact ⟨prefs ws, prefP_trie h2 h3, fun p hp => (prefs_okW h2 hp).1⟩
/-- As the program asks it. -/
theorem isT_prog (t : List ND) : IsT t ↔ ∃ P, prefP t = some P ∧ (∀ p ∈ P, p.length ≤ 12) ∧ (wordsP t P).length ≤ 40 ∧ (wordsP t P).Pairwise (· ≤ ·) ∧ trie (wordsP t P) = t := by
  constructor
  · rintro ⟨ws, h1, h2, h3, rfl⟩
    refine ⟨prefs ws, prefP_trie h2 h3, fun p hp => (prefs_okW h2 hp).1, ?_⟩
    rw [wordsP_trie h1]
    exact ⟨h3, h1.imp (fun h => le_of_lt' h), rfl⟩
  · rintro ⟨P, h1, h2, h3, h4, h5⟩
    have hP := prefP_spec h1
    refine ⟨setW (wordsP t P), setW_SS _, fun w hw => ?_, Nat.le_trans (setW_length _) h3, ?_⟩
    · have hm := wordsP_mem hP.2.2.1 ((mem_setW _ w).1 hw)
      exact ⟨h2 w hm, prefP_letters h1 hm⟩
    · rw [trie_congr (vs := wordsP t P) (fun x => mem_setW _ x), h5]
/-- As the reference asks it: ws are the words that it takes for the trie's. -/
theorem isT_ref (t : List ND) (hl : 1 ≤ t.length ∧ t.length ≤ 481) (ws : List Wd) (hw : ∀ P, TOk t P → ws = wordsP t P) : IsT t ↔ (∀ w ∈ ws, okW w) ∧ (setW ws).length ≤ 40 ∧ trie (setW ws) = t := by
  constructor
  · rintro ⟨vs, h1, h2, h3, rfl⟩
    have e := hw (prefs vs) ⟨prefP_trie h2 h3, fun p hp => (prefs_okW h2 hp).1⟩
    rw [wordsP_trie h1] at e
    subst e
    rw [setW_of_SS h1]
    exact ⟨h2, h3, rfl⟩
  · rintro ⟨h1, h2, h3⟩
    exact ⟨setW ws, setW_SS _, fun w hw => h1 w ((mem_setW _ w).1 hw), h2, h3.symm⟩
end Go.Proofs.YtcplbbflfgckbaaGreatDoor.Pl

