/- Plain: nodes and their prefixes tell one another, words under a node are those under its kids and its own, and ranks tell words. -/
import Derived.Test.YtcplbbflfgckbaaGreatDoorX25
import Derived.Test.YtcplbbflfgckbaaGreatDoorAnswers
import Derived.Test.YtcplbbflfgckbaaGreatDoorTrieDraw
set_option linter.unusedVariables false
set_option linter.unusedSimpArgs false
namespace Go.Proofs.YtcplbbflfgckbaaGreatDoor.Pure
open Go.RowKit Go.Proofs.YtcplbbflfgckbaaGreatDoorW.PrintWords Go.Proofs.YtcplbbflfgckbaaGreatDoorW.PrintLast Go.Proofs.YtcplbbflfgckbaaGreatDoorW.PrintMore Go.Proofs.YtcplbbflfgckbaaGreatDoor.X Go.Proofs.YtcplbbflfgckbaaGreatDoor.Pl
variable {ws : List Wd}
/-! ### words under a node -/
def ind (p : Prop) [Decidable p] : Nat := if p then 1 else 0
theorem ind_sum {L : List Nat} (hn : L.Nodup) (f : Nat → Prop) [DecidablePred f] {c : Nat} (hc : c ∈ L) (h : ∀ x ∈ L, f x ↔ x = c) : (L.map fun x => ind (f x)).sum = 1 := by
  have zero : ∀ M : List Nat, (∀ x ∈ M, ¬ f x) → (M.map fun x => ind (f x)).sum = 0 := by
    intro M
    induction M with
    | nil => exact fun _ => rfl
    | cons y M ih =>
      intro hM
      rw [List.map_cons, List.sum_cons, ih (fun x hx => hM x (List.mem_cons_of_mem _ hx))]
      unfold ind
      rw [if_neg (hM y List.mem_cons_self)]
  induction L with
  | nil => cases hc
  | cons y L ih =>
    rw [List.map_cons, List.sum_cons]
    rw [List.nodup_cons] at hn
    by_cases hy : y = c
    · subst hy
      rw [zero L (fun x hx hf => hn.1 (by have := (h x (List.mem_cons_of_mem _ hx)).1 hf; rwa [this] at hx))]
      unfold ind
      rw [if_pos ((h y List.mem_cons_self).2 rfl)]
    · rw [ih hn.2 ((List.mem_cons.1 hc).resolve_left (fun e => hy e.symm)) (fun x hx => h x (List.mem_cons_of_mem _ hx))]
      unfold ind
      rw [if_neg (fun hf => hy ((h y List.mem_cons_self).1 hf))]
theorem zero_sum {L : List Nat} (f : Nat → Prop) [DecidablePred f] (h : ∀ x ∈ L, ¬ f x) : (L.map fun x => ind (f x)).sum = 0 := by
  induction L with
  | nil => rfl
  | cons y L ih =>
    rw [List.map_cons, List.sum_cons, ih (fun x hx => h x (List.mem_cons_of_mem _ hx))]
    unfold ind
    rw [if_neg (h y List.mem_cons_self)]
theorem kids_nodup (t : List ND) (i : Nat) : (kids t i).Nodup := (List.nodup_range' ..).filter _
theorem one_word (h : WOk ws) {i : Nat} (hi : i < (trie ws).length) {x : Wd} (hx : x ∈ ws) :
    ind ((prefs ws).getD i [] <+: x) = ind (x = (prefs ws).getD i []) + ((kids (trie ws) i).map fun c => ind ((prefs ws).getD c [] <+: x)).sum := by
  have hg := h.gok
  have kw := fun {c} (hc : c ∈ kids (trie ws) i) => (hg.kid_word hc).1
  by_cases hp : (prefs ws).getD i [] <+: x
  · by_cases he : x = (prefs ws).getD i []
    · rw [zero_sum _ (fun c hc hf => by
        have := hf.length_le
        rw [kw hc, List.length_append, ← he] at this
        simp only [List.length_cons, List.length_nil] at this
        omega)]
      unfold ind
      rw [if_pos hp, if_pos he]
    · obtain ⟨r, hr⟩ := hp
      cases r with
      | nil => exact absurd (by rw [← hr, List.append_nil]) he
      | cons b r =>
        have hmem : (prefs ws).getD i [] ++ [b] ∈ prefs ws := (mem_prefs ws _).2 (.inr ⟨x, hx, ⟨r, by rw [← hr]; simp⟩⟩)
        obtain ⟨i', c, hi', hc, e1, e2, _⟩ := hg.up hmem
        have : i' = i := hg.inj hi' hi e1
        subst this
        have hs : ((kids (trie ws) i').map fun c => ind ((prefs ws).getD c [] <+: x)).sum = 1 := by
          refine ind_sum (kids_nodup _ _) (fun c => (prefs ws).getD c [] <+: x) hc (fun c' hc' => ⟨fun hf => ?_, fun e => ?_⟩)
          · rw [kw hc', ← hr, List.prefix_append_right_inj, List.cons_prefix_cons] at hf
            refine hg.inj (kids_gt hg hc').2 (kids_gt hg hc).2 ?_
            rw [kw hc', e2, hf.1]
          · rw [e, e2, ← hr]
            exact ⟨r, by simp⟩
        rw [hs]
        unfold ind
        rw [if_pos ⟨b :: r, hr⟩, if_neg he]
  · rw [zero_sum _ (fun c hc hf => hp ((show (prefs ws).getD i [] <+: (prefs ws).getD c [] from by rw [kw hc]; exact List.prefix_append _ _).trans hf))]
    unfold ind
    rw [if_neg hp, if_neg (fun e => hp (by rw [e]; exact List.prefix_refl _))]
theorem under_count (L : List Wd) (p : Wd) : (underL L p).length = (L.map fun x => ind (p <+: x)).sum := by
  induction L with
  | nil => rfl
  | cons x L ih =>
    rw [List.map_cons, List.sum_cons, ← ih]
    by_cases h : p <+: x
    · have e : underL (x :: L) p = x :: underL L p := List.filter_cons_of_pos (p := fun w => p.isPrefixOf w) (List.isPrefixOf_iff_prefix.2 h)
      have e2 : ind (p <+: x) = 1 := if_pos h
      rw [e, e2, List.length_cons, Nat.add_comm]
    · have e : underL (x :: L) p = underL L p := List.filter_cons_of_neg (p := fun w => p.isPrefixOf w) (fun e => h (List.isPrefixOf_iff_prefix.1 e))
      have e2 : ind (p <+: x) = 0 := if_neg h
      rw [e, e2, Nat.zero_add]
theorem under_kids (h : WOk ws) {i : Nat} (hi : i < (trie ws).length) :
    (underL ws ((prefs ws).getD i [])).length = ind ((prefs ws).getD i [] ∈ ws) + ((kids (trie ws) i).map fun c => (underL ws ((prefs ws).getD c [])).length).sum := by
  have key : ∀ L : List Wd, (∀ x ∈ L, x ∈ ws) → L.Nodup → (L.map fun x => ind ((prefs ws).getD i [] <+: x)).sum = ind ((prefs ws).getD i [] ∈ L) + ((kids (trie ws) i).map fun c => (L.map fun x => ind ((prefs ws).getD c [] <+: x)).sum).sum := by
    intro L
    induction L with
    | nil =>
      intro _ _
      have z : ∀ K : List Nat, (K.map fun c => (([] : List Wd).map fun x => ind ((prefs ws).getD c [] <+: x)).sum).sum = 0 := fun K => by
        induction K with
        | nil => rfl
        | cons c K ihK => rw [List.map_cons, List.sum_cons, ihK]; rfl
      rw [z]
      unfold ind
      simp
    | cons x L ih =>
      intro hL hn
      rw [List.nodup_cons] at hn
      have e := one_word h hi (hL x List.mem_cons_self)
      have e2 := ih (fun y hy => hL y (List.mem_cons_of_mem _ hy)) hn.2
      have e3 : ((kids (trie ws) i).map fun c => ((x :: L).map fun x => ind ((prefs ws).getD c [] <+: x)).sum).sum = ((kids (trie ws) i).map fun c => ind ((prefs ws).getD c [] <+: x)).sum + ((kids (trie ws) i).map fun c => (L.map fun x => ind ((prefs ws).getD c [] <+: x)).sum).sum := by
        induction kids (trie ws) i with
        | nil => rfl
        | cons c K ihK => simp only [List.map_cons, List.sum_cons] at ihK ⊢; omega
      have e4 : ind ((prefs ws).getD i [] ∈ x :: L) = ind (x = (prefs ws).getD i []) + ind ((prefs ws).getD i [] ∈ L) := by
        unfold ind
        by_cases hxp : x = (prefs ws).getD i []
        · rw [if_pos (by rw [hxp]; exact List.mem_cons_self), if_pos hxp, if_neg (by rw [← hxp]; exact hn.1)]
        · rw [if_neg hxp]
          by_cases hm : (prefs ws).getD i [] ∈ L
          · rw [if_pos hm, if_pos (List.mem_cons_of_mem _ hm)]
          · rw [if_neg hm, if_neg (fun hh => (List.mem_cons.1 hh).elim (fun e => hxp e.symm) hm)]
      rw [List.map_cons, List.sum_cons, e3, e4, e2, e]
      omega
  have := key ws (fun x hx => hx) h.ss.nodup
  rw [under_count, this]
  congr 2
  exact List.map_congr_left (fun c _ => (under_count ws _).symm)
theorem node_end (h : WOk ws) {i : Nat} (hi : i < (trie ws).length) : ((trie ws).getD i zND).f2 = decide ((prefs ws).getD i [] ∈ ws) := by
  have hi' : i < (prefs ws).length := by rw [← trie_length]; exact hi
  rw [List.getD_eq_getElem?_getD, List.getD_eq_getElem?_getD, List.getElem?_eq_getElem hi, List.getElem?_eq_getElem hi', Option.getD_some, Option.getD_some]
  have e : (trie ws)[i] = nodeOf ws (prefs ws) (prefs ws)[i] := List.getElem_map _
  rw [e]
  unfold nodeOf
  split <;> rfl
/-! ### both sides, for any trie -/
theorem both1 (t : List ND) (ht : t.length ≤ 482) (i : Int) : ∃ (a : List Int × Bool) (b : ByteArray × Bool) (c : Int × Bool),
    Ev (fun k => impl_KidsOf.f k t i) a ∧ Ev (fun k => spec_KidsOf.f k t i) a ∧ Ev (fun k => impl_PrefixOf.f k t i) b ∧ Ev (fun k => spec_PrefixOf.f k t i) b ∧ Ev (fun k => impl_CountUnder.f k t i) c ∧ Ev (fun k => spec_CountUnder.f k t i) c ∧
    a.1.length ≤ 482 ∧ b.2 = a.2 ∧ c.2 = a.2 ∧ (a.2 = true → ∃ (ws : List Wd) (j : Nat), WOk ws ∧ t = trie ws ∧ i = j ∧ j < (trie ws).length ∧ a.1 = ints (kids (trie ws) j) ∧ b.1 = wb ((prefs ws).getD j []) ∧ c.1 = ((underL ws ((prefs ws).getD j [])).length : Nat)) := by
  rcases isT_cases t with ⟨ws, h, rfl⟩ | h
  · refine ⟨_, _, _, kidsOf_i h i, kidsOf_s h i, prefixOf_i h i, prefixOf_s h i, countUnder_i h i, countUnder_s h i, ?_⟩
    unfold kidsR prefixR countUnderR
    by_cases hi : isAt (trie ws).length i
    · rw [if_pos hi, if_pos hi, if_pos hi]
      obtain ⟨j, rfl, hj⟩ := hi.nat
      exact ⟨by simp only [Int.toNat_natCast, ints_length]; have := kids_length (trie ws) j; omega, rfl, rfl, fun _ => ⟨ws, j, h, rfl, rfl, hj, rfl, rfl, rfl⟩⟩
    · rw [if_neg hi, if_neg hi, if_neg hi]
      exact ⟨by simp, rfl, rfl, fun hh => absurd hh (by decide)⟩
  · exact ⟨_, _, _, kidsOf_i0 (by omega) h i, kidsOf_s0 (by omega) h i, prefixOf_i0 (by omega) h i, prefixOf_s0 (by omega) h i, countUnder_i0 (by omega) h i, countUnder_s0 (by omega) h i, by simp, rfl, rfl, fun hh => absurd hh (by decide)⟩
theorem both2 (t : List ND) (ht : t.length ≤ 482) (p : ByteArray) (hp : p.size ≤ 25) : ∃ (a b : Int × Bool),
    Ev (fun k => impl_NodeOf.f k t p) a ∧ Ev (fun k => spec_NodeOf.f k t p) a ∧ Ev (fun k => impl_RankOf.f k t p) b ∧ Ev (fun k => spec_RankOf.f k t p) b ∧ b.2 = (isT t && decide (okW (bw p))) ∧
    (a.2 = true → ∃ (ws : List Wd), WOk ws ∧ t = trie ws ∧ bw p ∈ prefs ws ∧ a.1 = ((prefs ws).idxOf (bw p) : Nat)) := by
  rcases isT_cases t with ⟨ws, h, rfl⟩ | h
  · refine ⟨_, _, nodeOf_i h p, nodeOf_s h p (by omega), rank_i h p (by omega), rank_s h p (by omega), ?_, fun hh => ?_⟩
    · rw [h.isT, Bool.true_and]
      unfold rankR
      by_cases hm : okW (bw p)
      · rw [if_pos hm, decide_eq_true hm]
      · rw [if_neg hm, decide_eq_false hm]
    · unfold nodeR at hh ⊢
      by_cases hm : bw p ∈ prefs ws
      · rw [if_pos hm]; exact ⟨ws, h, rfl, hm, rfl⟩
      · rw [if_neg hm] at hh; exact absurd hh (by decide)
  · exact ⟨_, _, nodeOf_i0 (by omega) h p, nodeOf_s0 (by omega) h p, rank_i0 (by omega) h p (by omega), rank_s0 (by omega) h p, by rw [h]; rfl, fun hh => absurd hh (by decide)⟩
theorem both3 (t : List ND) (ht : t.length ≤ 482) (i : Int) : ∃ (a : ByteArray × Bool) (b c : Int × Bool),
    Ev (fun k => impl_WordAt.f k t i) a ∧ Ev (fun k => spec_WordAt.f k t i) a ∧ Ev (fun k => impl_DepthOf.f k t) b ∧ Ev (fun k => spec_DepthOf.f k t) b ∧ Ev (fun k => impl_SaveOf.f k t) c ∧ Ev (fun k => spec_SaveOf.f k t) c ∧
    b.2 = isT t ∧ c.2 = b.2 ∧ (c.2 = true → 0 ≤ c.1) ∧ (a.2 = true → ∃ (ws : List Wd) (j : Nat) (hj : j < ws.length), WOk ws ∧ t = trie ws ∧ i = j ∧ a.1 = wb ws[j] ∧ b.1 = (deepL ws : Nat)) := by
  rcases isT_cases t with ⟨ws, h, rfl⟩ | h
  · refine ⟨_, _, _, wordAt_i h i, wordAt_s h i, depth_i h, depth_s h, save_i h, save_s h, h.isT.symm, rfl, fun _ => ?_, fun hh => ?_⟩
    · have := nodes_sum h
      unfold saveR
      simp only
      omega
    · unfold wordAtR at hh ⊢
      by_cases hi : isAt ws.length i
      · rw [if_pos hi]
        obtain ⟨j, rfl, hj⟩ := hi.nat
        exact ⟨ws, j, hj, h, rfl, rfl, by simp [List.getD, List.getElem?_eq_getElem hj], rfl⟩
      · rw [if_neg hi] at hh; exact absurd hh (by decide)
  · exact ⟨_, _, _, wordAt_i0 (by omega) h i, wordAt_s0 (by omega) h i, depth_i0 (by omega) h, depth_s0 (by omega) h, save_i0 (by omega) h, save_s0 (by omega) h, h.symm, rfl, fun hh => absurd hh (by decide), fun hh => absurd hh (by decide)⟩
/-! ### the draws -/
theorem drawKids_ev {l : List Int} (hl : isCodeB l) : ∃ r, Ev (fun k => spec_DrawKidsOf.f k l) r ∧ r.1.length ≤ 482 := by
  have h : ∃ r, Ev (fun k => spec_DrawPrefixOf.f k l) r ∧ r.1.length ≤ 482 := by
    unfold spec_DrawPrefixOf.f
    refine Dr.fin (trie_dr hl At.zero (by omega)) fun t a s g ht => ?_
    dsimp only
    obtain ⟨m, hm⟩ : ∃ m, spec_l1Most.f 1 (t.length : Int) = some m := by unfold spec_l1Most.f; split <;> exact ⟨_, rfl⟩
    rw [hm]
    simp only [Option.bind_some]
    refine Dr.fin (pick_dr hl g (by omega) m) fun x a s g hx => ?_
    refine Dr.fin (pick_dr hl g (by omega) 24) fun y a s g hy => ?_
    refine Dr.fin (pick_dr hl g (by omega) 24) fun z a s g hz => ?_
    exact ⟨_, ev_eq rfl, ht⟩
  obtain ⟨r, h1, h2⟩ := h
  unfold spec_DrawKidsOf.f
  exact ⟨_, Ev.bind h1 (ev_eq rfl), h2⟩
theorem drawHas_ev {l : List Int} (hl : isCodeB l) : ∃ r, Ev (fun k => spec_DrawHasWord.f k l) r ∧ r.1.length ≤ 482 ∧ r.2.size ≤ 25 := by
  unfold spec_DrawHasWord.f
  refine Dr.fin (trie_dr hl At.zero (by omega)) fun t a s g ht => ?_
  exact Dr.fin (wordOf_dr hl g (by omega) t ht) fun w a s g hw => ⟨_, ev_eq rfl, ht, hw⟩
theorem drawNode_ev {l : List Int} (hl : isCodeB l) : ∃ r, Ev (fun k => spec_DrawNodeOf.f k l) r ∧ r.1.length ≤ 482 ∧ r.2.size ≤ 25 := by
  obtain ⟨r, h1, h2, h3⟩ := drawHas_ev hl
  unfold spec_DrawNodeOf.f
  exact ⟨_, Ev.bind h1 (ev_eq rfl), h2, h3⟩
theorem drawWordAt_ev {l : List Int} (hl : isCodeB l) : ∃ r, Ev (fun k => spec_DrawWordAt.f k l) r ∧ r.1.length ≤ 482 := by
  unfold spec_DrawWordAt.f
  refine Dr.fin (trie_dr hl At.zero (by omega)) fun t a s g ht => ?_
  refine Dr.fin (pick_dr hl g (by omega) 8) fun x a s g hx => ?_
  refine Dr.fin (pick_dr hl g (by omega) 24) fun y a s g hy => ?_
  exact ⟨_, ev_eq rfl, ht⟩
theorem rInts_ev (a : List Int) (ha : a.length ≤ 1000000) : Ev (fun k => laws_rInts.f k a a) true := by
  unfold laws_rInts.f
  refine ev_pos rfl ?_
  have key : ∀ d i, a.length - i = d → i ≤ a.length → Ev (fun k => laws_rInts.l0 k a a (i : Nat)) true := by
    intro d
    induction d with
    | zero => exact fun i hd hi => Ev.step (fun k => by unfold laws_rInts.l0; rfl) (ev_neg (by omega) (ev_eq rfl))
    | succ d ih =>
      intro i hd hi
      refine Ev.step (fun k => by unfold laws_rInts.l0; rfl) (ev_pos (by omega) (ev_pos (by omega) (ev_pos (by omega) (ev_pos rfl ?_))))
      rw [inc (by omega)]
      exact ih (i + 1) (by omega) (by omega)
  exact key _ 0 rfl (Nat.zero_le _)
/-! ### the law -/
theorem FnNodes : ∀ (l0 : List Int), (l0.length * 1 ≤ 140737488351232 ∧ ∀ y ∈ l0, (Lit.int .u8 y).wf = true) → ∃ k, laws_FnNodes.f k l0 = some true := by
  intro l ⟨_, hl0⟩
  have hl : isCodeB l := code_of_wf' hl0
  refine Ev.rounds (r := true) ?_
  unfold laws_FnNodes.f laws_rBig.f
  refine ev_some (ev_ite (fun _ => ev_eq rfl) (fun hb => ?_))
  obtain ⟨⟨t, i⟩, hd1, ht⟩ := drawKids_ev hl
  obtain ⟨⟨u, p⟩, hd2, hu, hp⟩ := drawNode_ev hl
  obtain ⟨⟨v, n⟩, hd3, hv⟩ := drawWordAt_ev hl
  simp only at ht hu hp hv
  obtain ⟨A, B, C, a1, a2, b1, b2, c1, c2, hAl, hB, hC, hA⟩ := both1 t ht i
  obtain ⟨D, E, d1, d2, e1, e2, hE, hD⟩ := both2 u hu p hp
  obtain ⟨F, G, H, f1, f2, g1, g2, h1, h2, hG, hH, hH0, hF⟩ := both3 v hv n
  refine Ev.bind hd1 (Ev.bind a1 (Ev.bind a2 (ev_neg (by simp) (Ev.bind (rInts_ev A.1 (by omega)) ?_))))
  -- j9: the node
  have j9 : Ev (fun k => laws_FnNodes.j9 k i A.1 A.2 B.1 C.1 t) true := by
    refine Ev.step (fun k => by unfold laws_FnNodes.j9; rfl) (ev_ite (fun hf => ?_) (fun _ => ev_eq rfl))
    obtain ⟨ws, j, h, rfl, rfl, hj, hk, hb, hc⟩ := hA hf
    have hg := h.gok
    have hpl := hg.plen
    have hlen := h.len
    rw [hk, hb, hc]
    refine Ev.bind (nodeOf_i h _) ?_
    unfold nodeR
    have hmem := hg.mem hj
    rw [bw_wb, if_pos hmem, idx_of_getD hg.nod (by omega) rfl]
    have hul : (underL ws ((prefs ws).getD j [])).length ≤ 40 := Nat.le_trans (under_length _ _) h.le
    have last : Ev (fun k => laws_FnNodes.j10 k (j : Int) (ints (kids (trie ws) j)) (wb ((prefs ws).getD j [])) (((underL ws ((prefs ws).getD j [])).length : Nat) : Int) false (trie ws)) true := by
      refine Ev.step (fun k => by unfold laws_FnNodes.j10; rfl) (ev_neg (by decide) (ev_pos (by omega) (ev_pos (by omega) ?_)))
      have hsum := under_kids h hj
      have hend := node_end h hj
      have hrd : rd_T74 (trie ws) (j : Int) = (trie ws).getD j zND := by rw [rd_nd hj, List.getD_eq_getElem?_getD, List.getElem?_eq_getElem hj]; rfl
      have loop : ∀ (K pre : List Nat) (s : Nat), kids (trie ws) j = pre ++ K → s + (K.map fun c => (underL ws ((prefs ws).getD c [])).length).sum = (underL ws ((prefs ws).getD j [])).length →
          Ev (fun k => laws_FnNodes.l0 k (ints (kids (trie ws) j)) (wb ((prefs ws).getD j [])) (((underL ws ((prefs ws).getD j [])).length : Nat) : Int) (s : Int) (pre.length : Nat) (trie ws)) true := by
        intro K
        induction K with
        | nil =>
          intro pre s he hs
          have hl2 : (kids (trie ws) j).length = pre.length := by rw [he]; simp
          refine Ev.step (fun k => by unfold laws_FnNodes.l0; rfl) (ev_neg (by rw [ints_length]; omega) (ev_eq ?_))
          have : s = (underL ws ((prefs ws).getD j [])).length := hs
          rw [this, beq_self_eq_true]
        | cons c K ih =>
          intro pre s he hs
          have hl2 : (kids (trie ws) j).length = pre.length + (K.length + 1) := by rw [he]; simp
          have hc0 : (kids (trie ws) j).getD pre.length 0 = c := by rw [he]; simp [List.getD]
          have hcm : c ∈ kids (trie ws) j := by rw [he]; simp
          have hkw := hg.kid_word hcm
          have hck := (kids_gt hg hcm).2
          have hq := hg.short' hj
          rw [List.map_cons, List.sum_cons] at hs
          refine Ev.step (fun k => by unfold laws_FnNodes.l0; rfl) (ev_pos (by rw [ints_length]; omega) (ev_pos (by omega) ?_))
          rw [rd_ints (by omega), hc0, inc (i := pre.length) (by have := kids_length (trie ws) j; omega)]
          refine Ev.bind (countUnder_i h _) (Ev.bind (prefixOf_i h _) ?_)
          unfold countUnderR prefixR
          have hat : isAt (trie ws).length (c : Int) := ⟨by omega, by omega⟩
          rw [if_pos hat, if_pos hat, Int.toNat_natCast, hkw.1]
          refine ev_pos rfl (ev_pos rfl (ev_pos ?_ (ev_pos (by omega) (ev_pos (by rw [wb_size, wb_size, List.length_append]; simp; omega) (ev_pos ?_ ?_)))))
          · rw [wb_size, wb_size, List.length_append, w64 (by omega) (by omega)]; simp
          · rw [toList_bw, toList_bw, wb_size, extract_wb, bw_wb, bw_wb, List.take_left]
          · rw [← hkw.1, w64 (by omega) (by omega)]
            have := ih (pre ++ [c]) (s + (underL ws ((prefs ws).getD c [])).length) (by rw [he]; simp) (by omega)
            rw [List.length_append] at this
            have e : (s : Int) + (((underL ws ((prefs ws).getD c [])).length : Nat) : Int) = ((s + (underL ws ((prefs ws).getD c [])).length : Nat) : Int) := by omega
            rw [e]
            exact this
      have j11 : ∀ s : Nat, s + ((kids (trie ws) j).map fun c => (underL ws ((prefs ws).getD c [])).length).sum = (underL ws ((prefs ws).getD j [])).length →
          Ev (fun k => laws_FnNodes.j11 k (ints (kids (trie ws) j)) (wb ((prefs ws).getD j [])) (((underL ws ((prefs ws).getD j [])).length : Nat) : Int) (s : Int) (trie ws)) true :=
        fun s hs => Ev.step (fun k => by unfold laws_FnNodes.j11; rfl) (loop _ [] s rfl hs)
      rw [hrd, hend]
      by_cases hm : (prefs ws).getD j [] ∈ ws
      · refine ev_pos (decide_eq_true hm) (j11 1 ?_)
        unfold ind at hsum
        rw [if_pos hm] at hsum
        omega
      · refine ev_neg (by rw [decide_eq_true_eq]; exact hm) (j11 0 ?_)
        unfold ind at hsum
        rw [if_neg hm] at hsum
        omega
    refine ev_pos rfl (ev_pos rfl (ev_ite (fun h0 => ?_) (fun _ => last)))
    have hpos : 1 ≤ (underL ws ((prefs ws).getD j [])).length := by
      rcases (mem_prefs ws _).1 hmem with he | ⟨x, hx, hxp⟩
      · exfalso
        have h0' : (prefs ws).getD 0 [] = [] := (prefP_spec hg.pre).2.2.2.1
        have := hg.inj hj hg.one (he.trans h0'.symm)
        omega
      · exact List.length_pos_of_mem (mem_under.2 ⟨hx, hxp⟩)
    rw [decide_eq_false (by omega)]
    exact last
  -- j8: ranks
  have j8 : Ev (fun k => laws_FnNodes.j8 k i A.1 A.2 B.1 C.1 n F.1 F.2 G.1 t v) true := by
    refine Ev.step (fun k => by unfold laws_FnNodes.j8; rfl) (ev_ite (fun hf => ?_) (fun _ => j9))
    obtain ⟨ws, j, hj, h, rfl, rfl, ha, hb⟩ := hF hf
    have hm : ws[j] ∈ ws := List.getElem_mem hj
    have hsz := h.size hm
    rw [ha, hb]
    refine Ev.bind (rank_i h _ (by rw [wb_size]; omega)) ?_
    unfold rankR
    rw [bw_wb, if_pos (h.ok _ hm), rank_at h.ss hj]
    have := le_deep hm
    exact ev_pos rfl (ev_pos rfl (ev_neg (by rw [wb_size]; omega) j9))
  have j7 : Ev (fun k => laws_FnNodes.j7 k i A.1 A.2 B.1 C.1 p D.1 D.2 n F.1 F.2 G.1 false t u v) true := by
    refine Ev.step (fun k => by unfold laws_FnNodes.j7; rfl) (ev_neg (by decide) (ev_ite (fun hf => ?_) (fun _ => j8)))
    obtain ⟨ws, h, rfl, hm, ha⟩ := hD hf
    have hpl := h.gok.plen
    have hidx : (prefs ws).idxOf (bw p) < (prefs ws).length := List.idxOf_lt_length_iff.2 hm
    rw [ha]
    refine Ev.bind (prefixOf_i h _) ?_
    unfold prefixR
    rw [if_pos (show isAt (trie ws).length (((prefs ws).idxOf (bw p) : Nat) : Int) from ⟨by omega, by omega⟩), Int.toNat_natCast]
    refine ev_pos rfl (ev_pos ?_ j8)
    rw [toList_bw, toList_bw, bw_wb, List.getD_eq_getElem?_getD, List.getElem?_eq_getElem hidx, Option.getD_some, List.getElem_idxOf]
  have j6 : Ev (fun k => laws_FnNodes.j6 k i A.1 A.2 B.1 C.1 p D.1 D.2 n F.1 F.2 G.1 G.2 false t u v) true := by
    refine Ev.step (fun k => by unfold laws_FnNodes.j6; rfl) (ev_neg (by decide) (Ev.bind h1 (Ev.bind h2 (ev_pos rfl ?_))))
    refine ev_neg (by simp) (ev_neg (by rw [hH]; simp) ?_)
    refine ev_ite (fun hf => ?_) (fun _ => j7)
    rw [decide_eq_false (by have := hH0 hf; omega)]
    exact j7
  have j5 : Ev (fun k => laws_FnNodes.j5 k i A.1 A.2 B.1 C.1 p D.1 D.2 n F.1 F.2 false t u v) true := by
    refine Ev.step (fun k => by unfold laws_FnNodes.j5; rfl) (ev_neg (by decide) (Ev.bind g1 (Ev.bind g2 (ev_pos rfl ?_))))
    refine ev_neg (by simp) ?_
    refine Ev.bind (a := isT v) (by unfold impl_IsTrie.f; exact Ev.bind (isTrie_ev v (by omega)) (ev_eq rfl)) ?_
    rw [hG, show (isT v != isT v) = false by simp]
    rw [hG] at j6
    exact j6
  have j4 : Ev (fun k => laws_FnNodes.j4 k l i A.1 A.2 B.1 C.1 p D.1 D.2 false t u) true := by
    refine Ev.step (fun k => by unfold laws_FnNodes.j4; rfl) (ev_neg (by decide) (Ev.bind hd3 (Ev.bind f1 (Ev.bind f2 (ev_pos rfl ?_)))))
    rw [show (F.2 != F.2) = false by simp]
    exact j5
  have j3 : Ev (fun k => laws_FnNodes.j3 k l i A.1 A.2 B.1 C.1 p D.1 D.2 false t u) true := by
    refine Ev.step (fun k => by unfold laws_FnNodes.j3; rfl) (ev_neg (by decide) (Ev.bind e1 (Ev.bind e2 (ev_pos rfl ?_))))
    refine ev_neg (by simp) ?_
    refine Ev.bind (a := isT u) (by unfold impl_IsTrie.f; exact Ev.bind (isTrie_ev u (by omega)) (ev_eq rfl)) ?_
    refine ev_ite (fun hT => ?_) (fun hT => ?_)
    · refine Ev.bind (a := decide (okW (bw p))) (by unfold impl_IsWord.f; exact Ev.bind (ev_eq' (isWord_eq p (by omega))) (ev_eq rfl)) ?_
      rw [hE, hT, Bool.true_and, show (decide (okW (bw p)) != decide (okW (bw p))) = false by simp]
      exact j4
    · have hT' : isT u = false := by simpa using hT
      rw [hE, hT', Bool.false_and]
      exact j4
  have j2 : Ev (fun k => laws_FnNodes.j2 k l i A.1 A.2 B.1 C.1 false t) true := by
    refine Ev.step (fun k => by unfold laws_FnNodes.j2; rfl) (ev_neg (by decide) (Ev.bind hd2 (Ev.bind d1 (Ev.bind d2 (ev_pos rfl ?_)))))
    rw [show (D.2 != D.2) = false by simp]
    exact j3
  have j1 : Ev (fun k => laws_FnNodes.j1 k l i A.1 A.2 B.1 false t) true := by
    refine Ev.step (fun k => by unfold laws_FnNodes.j1; rfl) (ev_neg (by decide) (Ev.bind c1 (Ev.bind c2 (ev_pos rfl ?_))))
    refine ev_neg (by simp) ?_
    rw [hC, show (A.2 != A.2) = false by simp]
    exact j2
  refine Ev.step (fun k => by unfold laws_FnNodes.j0; rfl) (ev_neg (by decide) (Ev.bind b1 (Ev.bind b2 (ev_pos rfl ?_))))
  refine ev_neg (by simp) ?_
  rw [hB, show (A.2 != A.2) = false by simp]
  exact j1
end Go.Proofs.YtcplbbflfgckbaaGreatDoor.Pure

