/- Plain: unique prefixes are those of one word, shared ones are completions, and words under a prefix begin with it. -/
import Derived.Test.YtcplbbflfgckbaaGreatDoorX30
import Derived.Test.YtcplbbflfgckbaaGreatDoorWords
import Derived.Test.YtcplbbflfgckbaaGreatDoorTrieDraw
set_option linter.unusedVariables false
set_option linter.unusedSimpArgs false
namespace Go.Proofs.YtcplbbflfgckbaaGreatDoor.Pure
open Go.RowKit Go.Proofs.YtcplbbflfgckbaaGreatDoorW.PrintWords Go.Proofs.YtcplbbflfgckbaaGreatDoorW.PrintLast Go.Proofs.YtcplbbflfgckbaaGreatDoorW.PrintMore Go.Proofs.YtcplbbflfgckbaaGreatDoor.X Go.Proofs.YtcplbbflfgckbaaGreatDoor.Pl
variable {ws : List Wd}
/-! ### what the functions answer -/
def uniqR (ws : List Wd) (w : ByteArray) : ByteArray × Bool := if bw w ∈ ws then (wb (uniqL ws (bw w)), true) else (⟨#[]⟩, false)
def underR (ws : List Wd) (w : ByteArray) : List ByteArray × Bool := if okW (bw w) then ((underL ws (bw w)).map wb, true) else ([], false)
def fullR (ws : List Wd) (w : ByteArray) : ByteArray × Bool := if okW (bw w) ∧ 0 < (underL ws (bw w)).length then (wb (sharedL (underL ws (bw w))), true) else (⟨#[]⟩, false)
def sharedR (ws : List Wd) : ByteArray × Bool := if 0 < ws.length then (wb (sharedL ws), true) else (⟨#[]⟩, false)
theorem uniq_i (h : WOk ws) (w : ByteArray) (hw : w.size ≤ 1000) : Ev (fun k => impl_UniquePrefix.f k (trie ws) w) (uniqR ws w) := by
  unfold impl_UniquePrefix.f uniqR
  have hk := areKept_ev (trie ws) (by have := h.len; omega) w (by omega)
  rw [h.isT, Bool.true_and] at hk
  refine Ev.bind hk ?_
  by_cases hm : bw w ∈ ws
  · rw [if_pos hm]
    refine ev_pos (decide_eq_true (h.ok _ hm)) (Ev.bind (h.has w) ?_)
    rw [decide_eq_true hm]
    refine Ev.step (fun k => by unfold impl_UniquePrefix.j0; rfl) (ev_neg (by decide) ?_)
    have key : ∀ (f n : Nat), n + f = (bw w).length → Ev (fun k => impl_UniquePrefix.l0 k w (w.size : Int) (n : Int) (trie ws)) (wb (uniqFrom ws (bw w) f n), true) := by
      intro f
      induction f with
      | zero =>
        intro n hn
        rw [bw_size] at hn
        refine Ev.step (fun k => by unfold impl_UniquePrefix.l0; rfl) (ev_neg (by omega) (ev_eq ?_))
        unfold uniqFrom
        rw [wb_bw]
      | succ f ih =>
        intro n hn
        have hn' := hn
        rw [bw_size] at hn'
        have e : w.extract 0 ((n : Int)).toNat = wb ((bw w).take n) := by
          have := extract_wb (bw w) n
          rw [wb_bw] at this
          exact this
        refine Ev.step (fun k => by unfold impl_UniquePrefix.l0; rfl) (ev_pos (by omega) (ev_pos (by omega) (ev_pos (by omega) ?_)))
        rw [e, inc (by omega)]
        refine Ev.bind (h.under _) ?_
        rw [bw_wb, List.length_map]
        unfold uniqFrom
        by_cases hc : (underL ws ((bw w).take n)).length = 1
        · rw [if_pos hc]; exact ev_pos (by omega) (ev_eq rfl)
        · rw [if_neg hc]; exact ev_neg (by omega) (ih (n + 1) (by omega))
    exact key _ 0 (by omega)
  · rw [if_neg hm]
    refine ev_ite (fun _ => Ev.bind (h.has w) ?_) (fun _ => ?_)
    · rw [decide_eq_false hm]
      exact Ev.step (fun k => by unfold impl_UniquePrefix.j0; rfl) (ev_pos rfl (ev_eq rfl))
    · exact Ev.step (fun k => by unfold impl_UniquePrefix.j0; rfl) (ev_pos rfl (ev_eq rfl))
theorem uniq_s (h : WOk ws) (w : ByteArray) (hw : w.size ≤ 1000) : Ev (fun k => spec_UniquePrefix.f k (trie ws) w) (uniqR ws w) := by
  unfold spec_UniquePrefix.f uniqR
  refine Ev.bind h.l2Trie (ev_pos rfl (Ev.bind h.l2Words (Ev.bind (h.l2Has w) ?_)))
  by_cases hm : bw w ∈ ws
  · rw [if_pos hm, decide_eq_true hm]
    refine Ev.step (fun k => by unfold spec_UniquePrefix.j0; rfl) (ev_neg (by decide) (Ev.bind h.l2Words (Ev.bind (l3Unique_ev ws (by have := h.le; omega) w (by omega)) ?_)))
    exact ev_eq rfl
  · rw [if_neg hm, decide_eq_false hm]
    exact Ev.step (fun k => by unfold spec_UniquePrefix.j0; rfl) (ev_pos rfl (ev_eq rfl))
theorem under_i (h : WOk ws) (w : ByteArray) (hw : w.size ≤ 1000) : Ev (fun k => impl_WordsUnder.f k (trie ws) w) (underR ws w) := by
  unfold impl_WordsUnder.f underR
  have hk := areKept_ev (trie ws) (by have := h.len; omega) w (by omega)
  rw [h.isT, Bool.true_and] at hk
  refine Ev.bind hk ?_
  by_cases hm : okW (bw w)
  · rw [if_pos hm]; exact ev_pos (decide_eq_true hm) (Ev.bind (h.under w) (ev_eq rfl))
  · rw [if_neg hm]; exact ev_neg (by rw [decide_eq_true_eq]; exact hm) (ev_eq rfl)
theorem under_s (h : WOk ws) (w : ByteArray) (hw : w.size ≤ 1000) : Ev (fun k => spec_WordsUnder.f k (trie ws) w) (underR ws w) := by
  unfold spec_WordsUnder.f underR
  refine Ev.bind h.l2Trie (ev_pos rfl (Ev.bind (l2Word_ev w (by omega)) ?_))
  by_cases hm : okW (bw w)
  · rw [if_pos hm, decide_eq_true hm]
    refine Ev.step (fun k => by unfold spec_WordsUnder.j0; rfl) (ev_neg (by decide) (Ev.bind h.l2Words (Ev.bind (l3Under_ev ws (by have := h.le; omega) w) ?_)))
    exact ev_eq rfl
  · rw [if_neg hm, decide_eq_false hm]
    exact Ev.step (fun k => by unfold spec_WordsUnder.j0; rfl) (ev_pos rfl (ev_eq rfl))
theorem full_i (h : WOk ws) (w : ByteArray) (hw : w.size ≤ 1000) : Ev (fun k => impl_CompleteTo.f k (trie ws) w) (fullR ws w) := by
  unfold impl_CompleteTo.f fullR
  have hk := areKept_ev (trie ws) (by have := h.len; omega) w (by omega)
  rw [h.isT, Bool.true_and] at hk
  have hl := under_length ws (bw w)
  have hle := h.le
  refine Ev.bind hk ?_
  by_cases hm : okW (bw w)
  · refine ev_pos (decide_eq_true hm) (Ev.bind (h.under w) ?_)
    rw [List.length_map]
    by_cases h0 : 0 < (underL ws (bw w)).length
    · rw [if_pos ⟨hm, h0⟩, show (((underL ws (bw w)).length : Int) == 0) = false by simp; intro e; rw [e] at h0; exact absurd h0 (by simp)]
      refine Ev.step (fun k => by unfold impl_CompleteTo.j0; rfl) (ev_neg (by decide) (Ev.bind (h.under w) (Ev.bind (shared_ev _ (by omega) h0 (fun x hx => by have := h.size (mem_under.1 hx).1; omega)) ?_)))
      exact ev_eq rfl
    · rw [if_neg (fun e => h0 e.2), show (((underL ws (bw w)).length : Int) == 0) = true by simp; exact List.length_eq_zero_iff.1 (by omega)]
      exact Ev.step (fun k => by unfold impl_CompleteTo.j0; rfl) (ev_pos rfl (ev_eq rfl))
  · rw [if_neg (fun e => hm e.1)]
    exact ev_neg (by rw [decide_eq_true_eq]; exact hm) (Ev.step (fun k => by unfold impl_CompleteTo.j0; rfl) (ev_pos rfl (ev_eq rfl)))
theorem full_s (h : WOk ws) (w : ByteArray) (hw : w.size ≤ 1000) : Ev (fun k => spec_CompleteTo.f k (trie ws) w) (fullR ws w) := by
  unfold spec_CompleteTo.f fullR
  have hl := under_length ws (bw w)
  have hle := h.le
  refine Ev.bind h.l2Trie (ev_pos rfl (Ev.bind (l2Word_ev w (by omega)) ?_))
  by_cases hm : okW (bw w)
  · rw [decide_eq_true hm]
    refine Ev.step (fun k => by unfold spec_CompleteTo.j0; rfl) (ev_neg (by decide) (Ev.bind h.l2Words (Ev.bind (l3Under_ev ws (by omega) w) ?_)))
    rw [List.length_map]
    by_cases h0 : 0 < (underL ws (bw w)).length
    · rw [if_pos ⟨hm, h0⟩]
      exact ev_neg (by omega) (Ev.bind (l3Shared_ev _ (under_SS h.ss _) (by omega) h0 (fun x hx => by have := h.size (mem_under.1 hx).1; omega)) (ev_eq rfl))
    · rw [if_neg (fun e => h0 e.2)]
      exact ev_pos (by omega) (ev_eq rfl)
  · rw [if_neg (fun e => hm e.1), decide_eq_false hm]
    exact Ev.step (fun k => by unfold spec_CompleteTo.j0; rfl) (ev_pos rfl (ev_eq rfl))
theorem shared_i (h : WOk ws) : Ev (fun k => impl_SharedPrefix.f k (trie ws)) (sharedR ws) := by
  unfold impl_SharedPrefix.f sharedR
  have hle := h.le
  refine Ev.bind h.trieT (ev_pos rfl (Ev.bind h.words ?_))
  rw [List.length_map]
  by_cases h0 : 0 < ws.length
  · rw [if_pos h0, show ((ws.length : Int) == 0) = false by simp; intro e; rw [e] at h0; exact absurd h0 (by simp)]
    refine Ev.step (fun k => by unfold impl_SharedPrefix.j0; rfl) (ev_neg (by decide) (Ev.bind h.words (Ev.bind (shared_ev _ (by omega) h0 (fun x hx => by have := h.size hx; omega)) ?_)))
    exact ev_eq rfl
  · rw [if_neg h0, show ((ws.length : Int) == 0) = true by simp; exact List.length_eq_zero_iff.1 (by omega)]
    exact Ev.step (fun k => by unfold impl_SharedPrefix.j0; rfl) (ev_pos rfl (ev_eq rfl))
theorem shared_s (h : WOk ws) : Ev (fun k => spec_SharedPrefix.f k (trie ws)) (sharedR ws) := by
  unfold spec_SharedPrefix.f sharedR
  have hle := h.le
  refine Ev.bind h.l2Trie (ev_pos rfl (Ev.bind h.l2Words ?_))
  rw [List.length_map]
  by_cases h0 : 0 < ws.length
  · rw [if_pos h0, show ((ws.length : Int) == 0) = false by simp; intro e; rw [e] at h0; exact absurd h0 (by simp)]
    refine Ev.step (fun k => by unfold spec_SharedPrefix.j0; rfl) (ev_neg (by decide) (Ev.bind h.l2Words (Ev.bind (l3Shared_ev _ h.ss (by omega) h0 (fun x hx => by have := h.size hx; omega)) ?_)))
    exact ev_eq rfl
  · rw [if_neg h0, show ((ws.length : Int) == 0) = true by simp; exact List.length_eq_zero_iff.1 (by omega)]
    exact Ev.step (fun k => by unfold spec_SharedPrefix.j0; rfl) (ev_pos rfl (ev_eq rfl))
theorem count_i (h : WOk ws) : Ev (fun k => impl_CountWords.f k (trie ws)) ((ws.length : Int), true) := by
  unfold impl_CountWords.f
  refine Ev.bind h.trieT (ev_pos rfl (Ev.bind h.words (ev_eq ?_)))
  rw [List.length_map]
/-! ### all of it for any trie -/
theorem both (t : List ND) (ht : t.length ≤ 482) (w : ByteArray) (hw : w.size ≤ 1000) : ∃ (u : ByteArray × Bool) (v : List ByteArray × Bool) (f : ByteArray × Bool),
    Ev (fun k => impl_UniquePrefix.f k t w) u ∧ Ev (fun k => spec_UniquePrefix.f k t w) u ∧ Ev (fun k => impl_WordsUnder.f k t w) v ∧ Ev (fun k => spec_WordsUnder.f k t w) v ∧ Ev (fun k => impl_CompleteTo.f k t w) f ∧ Ev (fun k => spec_CompleteTo.f k t w) f ∧
    ((∃ ws, WOk ws ∧ t = trie ws ∧ u = uniqR ws w ∧ v = underR ws w ∧ f = fullR ws w) ∨ (u = (⟨#[]⟩, false) ∧ v = ([], false) ∧ f = (⟨#[]⟩, false))) := by
  rcases isT_cases t with ⟨ws, h, rfl⟩ | h
  · exact ⟨_, _, _, uniq_i h w hw, uniq_s h w hw, under_i h w hw, under_s h w hw, full_i h w hw, full_s h w hw, .inl ⟨ws, h, rfl, rfl, rfl, rfl⟩⟩
  · have hk := areKept_ev t (by omega) w (by omega)
    rw [h, Bool.false_and] at hk
    have h2 := noT_s (t := t) (by omega) h
    refine ⟨_, _, _, ?_, ?_, ?_, ?_, ?_, ?_, .inr ⟨rfl, rfl, rfl⟩⟩
    · unfold impl_UniquePrefix.f
      exact Ev.bind hk (ev_neg (by decide) (Ev.step (fun k => by unfold impl_UniquePrefix.j0; rfl) (ev_pos rfl (ev_eq rfl))))
    · unfold spec_UniquePrefix.f
      exact Ev.bind h2 (ev_neg (by decide) (Ev.step (fun k => by unfold spec_UniquePrefix.j0; rfl) (ev_pos rfl (ev_eq rfl))))
    · unfold impl_WordsUnder.f
      exact Ev.bind hk (ev_neg (by decide) (ev_eq rfl))
    · unfold spec_WordsUnder.f
      exact Ev.bind h2 (ev_neg (by decide) (Ev.step (fun k => by unfold spec_WordsUnder.j0; rfl) (ev_pos rfl (ev_eq rfl))))
    · unfold impl_CompleteTo.f
      exact Ev.bind hk (ev_neg (by decide) (Ev.step (fun k => by unfold impl_CompleteTo.j0; rfl) (ev_pos rfl (ev_eq rfl))))
    · unfold spec_CompleteTo.f
      exact Ev.bind h2 (ev_neg (by decide) (Ev.step (fun k => by unfold spec_CompleteTo.j0; rfl) (ev_pos rfl (ev_eq rfl))))
theorem both2 (t : List ND) (ht : t.length ≤ 482) : ∃ s : ByteArray × Bool, Ev (fun k => impl_SharedPrefix.f k t) s ∧ Ev (fun k => spec_SharedPrefix.f k t) s ∧ ((∃ ws, WOk ws ∧ t = trie ws ∧ s = sharedR ws) ∨ s = (⟨#[]⟩, false)) := by
  rcases isT_cases t with ⟨ws, h, rfl⟩ | h
  · exact ⟨_, shared_i h, shared_s h, .inl ⟨ws, h, rfl, rfl⟩⟩
  · refine ⟨_, ?_, ?_, .inr rfl⟩
    · unfold impl_SharedPrefix.f
      exact Ev.bind (noT_i (by omega) h) (ev_neg (by decide) (Ev.step (fun k => by unfold impl_SharedPrefix.j0; rfl) (ev_pos rfl (ev_eq rfl))))
    · unfold spec_SharedPrefix.f
      exact Ev.bind (noT_s (by omega) h) (ev_neg (by decide) (Ev.step (fun k => by unfold spec_SharedPrefix.j0; rfl) (ev_pos rfl (ev_eq rfl))))
/-! ### the draws -/
theorem drawUnique_ev {l : List Int} (hl : isCodeB l) : ∃ r, Ev (fun k => spec_DrawUniquePrefix.f k l) r ∧ r.1.length ≤ 482 ∧ r.2.size ≤ 25 := by
  unfold spec_DrawUniquePrefix.f
  refine Dr.fin (trie_dr hl At.zero (by omega)) fun t a s g ht => ?_
  exact Dr.fin (wordOf_dr hl g (by omega) t ht) fun w a s g hw => ⟨_, ev_eq rfl, ht, hw⟩
theorem drawShared_ev {l : List Int} (hl : isCodeB l) : ∃ r, Ev (fun k => spec_DrawSharedPrefix.f k l) r ∧ r.length ≤ 482 := by
  unfold spec_DrawSharedPrefix.f
  refine Dr.fin (trie_dr hl At.zero (by omega)) fun t a s g ht => ?_
  dsimp only
  rcases isT_cases t with ⟨ws, h, rfl⟩ | h
  · have hle := h.le
    suffices H : ∃ r, Ev (fun k => (spec_l1Cur_of.f l a s (([(⟨#[97]⟩ : ByteArray), (⟨#[98]⟩ : ByteArray), (⟨#[97, 98]⟩ : ByteArray), (⟨#[]⟩ : ByteArray)] : List ByteArray))).bind fun bt585 => ((spec_l3Under.f k (ws.map wb) bt585.1).bind fun t588 => ((spec_l2Trie.f k (trie ws)).bind fun t591 => (if t591 = true then (if (t588.length : Int) > 0 then ((spec_l1Cur_one.f l bt585.2.1 bt585.2.2 2).bind fun bt592 => (if bt592.1 = true then ((spec_l2Of.f k t588).bind fun t595 => (some t595)) else (some (trie ws)))) else (some (trie ws))) else (some (trie ws)))))) r ∧ r.length ≤ 482 by
      obtain ⟨r, h1, h2⟩ := H
      exact ⟨r, Ev.bind h.l2Words h1, h2⟩
    refine Dr.fin (of_dr hl g (by omega) _ (by decide)) fun p a s g _ => ?_
    dsimp only
    have hok : ∀ w ∈ underL ws (bw p), okW w := fun w hw => h.ok w (mem_under.1 hw).1
    have hul : (underL ws (bw p)).length ≤ 40 := Nat.le_trans (under_length _ _) h.le
    suffices H : ∃ r, Ev (fun k => (if ((((underL ws (bw p)).map wb).length : Nat) : Int) > 0 then ((spec_l1Cur_one.f l a s 2).bind fun bt592 => (if bt592.1 = true then ((spec_l2Of.f k ((underL ws (bw p)).map wb)).bind fun t595 => (some t595)) else (some (trie ws)))) else (some (trie ws)))) r ∧ r.length ≤ 482 by
      obtain ⟨r, h1, h2⟩ := H
      exact ⟨r, Ev.bind (l3Under_ev ws (by omega) p) (Ev.bind h.l2Trie (ev_pos rfl h1)), h2⟩
    by_cases h0 : ((((underL ws (bw p)).map wb).length : Nat) : Int) > 0
    · obtain ⟨r, h1, h2⟩ : ∃ r, Ev (fun k => (spec_l1Cur_one.f l a s 2).bind fun bt592 => (if bt592.1 = true then ((spec_l2Of.f k ((underL ws (bw p)).map wb)).bind fun t595 => (some t595)) else (some (trie ws)))) r ∧ r.length ≤ 482 := by
        refine Dr.fin (one_dr hl g (by omega) 2) fun b a s g _ => ?_
        dsimp only
        cases b with
        | true => exact ⟨_, ev_pos rfl (Ev.bind (l2Of_ev _ (by omega) (fun w hw => by have := (hok w hw).1; omega)) (ev_eq rfl)), by have := (trie_bound hok hul).2; omega⟩
        | false => exact ⟨_, ev_neg (by decide) (ev_eq rfl), by have := h.len; omega⟩
      exact ⟨r, ev_pos h0 h1, h2⟩
    · exact ⟨_, ev_neg h0 (ev_eq rfl), by have := h.len; omega⟩
  · obtain ⟨vs, h1, h2, h3, _⟩ := l2Words_ev t (by omega)
    have hb : vs = (vs.map bw).map wb := by rw [List.map_map]; exact ((List.map_congr_left fun x _ => wb_bw x).trans (List.map_id vs)).symm
    have hu := fun p => l3Under_ev (vs.map bw) (by rw [List.length_map]; omega) p
    rw [← hb] at hu
    obtain ⟨p, a2, s2, e, _⟩ := of_ev hl (s := s) g (by omega) ([(⟨#[97]⟩ : ByteArray), (⟨#[98]⟩ : ByteArray), (⟨#[97, 98]⟩ : ByteArray), (⟨#[]⟩ : ByteArray)] : List ByteArray) (by decide)
    exact ⟨t, Ev.bind h1 (Ev.bind (ev_eq' e) (Ev.bind (hu p) (Ev.bind (noT_s (by omega) h) (ev_neg (by decide) (ev_eq rfl))))), ht⟩
/-! ### the law -/
theorem FnPrefixes : ∀ (l0 : List Int), (l0.length * 1 ≤ 140737488351232 ∧ ∀ y ∈ l0, (Lit.int .u8 y).wf = true) → ∃ k, laws_FnPrefixes.f k l0 = some true := by
  intro l ⟨_, hl0⟩
  have hl : isCodeB l := code_of_wf' hl0
  refine Ev.rounds (r := true) ?_
  unfold laws_FnPrefixes.f laws_vBig.f
  refine ev_some (ev_ite (fun _ => ev_eq rfl) (fun hb => ?_))
  have hlen : l.length ≤ 65536 := by simp at hb; omega
  obtain ⟨l1, hl1, hc1, hn1⟩ := vCut_ev hl hlen (c := 1) (by omega)
  obtain ⟨⟨t, w⟩, hd1, ht, hw⟩ := drawUnique_ev hl
  obtain ⟨v, hd2, hv⟩ := drawShared_ev hc1
  simp only at ht hw
  obtain ⟨u, un, f, e1, e2, e3, e4, e5, e6, hc⟩ := both t ht w (by omega)
  obtain ⟨s, g1, g2, hs⟩ := both2 v hv
  rw [hl1]
  refine Ev.bind hd1 (Ev.bind e1 (Ev.bind e2 (Ev.bind e3 (Ev.bind e4 (Ev.bind e5 (Ev.bind e6 (ev_some (Ev.bind hd2 (Ev.bind g1 (Ev.bind g2 ?_))))))))))
  have hvl : un.1.length ≤ 1000000000 := by
    rcases hc with ⟨ws, h, _, _, rfl, _⟩ | ⟨_, rfl, _⟩
    · unfold underR
      split
      · have := under_length ws (bw w); have := h.le; simp only [List.length_map]; omega
      · simp
    · simp
  have hvt := vTexts_ev un.1 un.1 hvl
  rw [decide_eq_true rfl] at hvt
  refine ev_pos rfl (ev_neg (by simp) (ev_neg (by simp) (Ev.bind hvt (ev_pos rfl (ev_pos rfl (ev_neg (by simp) (ev_pos rfl (ev_neg (by simp) ?_))))))))
  -- what stands behind: j3, j2, j1
  have j3 : Ev (fun k => laws_FnPrefixes.j3 k w un.1 f.1 f.2 t) true := by
    refine Ev.step (fun k => by unfold laws_FnPrefixes.j3; rfl) (ev_ite (fun hf => ?_) (fun _ => ev_eq rfl))
    rcases hc with ⟨ws, h, rfl, _, rfl, rfl⟩ | ⟨_, _, rfl⟩
    case inr => exact absurd hf (by decide)
    unfold fullR at hf ⊢
    by_cases hm : okW (bw w) ∧ 0 < (underL ws (bw w)).length
    case neg => rw [if_neg hm] at hf; exact absurd hf (by decide)
    rw [if_pos hm]
    have hsl : (sharedL (underL ws (bw w))).length ≤ 12 := by
      have h1 := getD_mem' hm.2
      exact Nat.le_trans (shared_all (under_SS h.ss _) h1).length_le (h.size (mem_under.1 h1).1)
    have hsok : okW (sharedL (underL ws (bw w))) := by
      have h1 := getD_mem' hm.2
      have h2 := shared_all (under_SS h.ss (bw w)) h1
      exact ⟨hsl, fun b hb => (h.ok _ (mem_under.1 h1).1).2 b (h2.subset hb)⟩
    have hp : bw w <+: sharedL (underL ws (bw w)) := shared_most hm.2 (fun x hx => (mem_under.1 hx).2)
    have hpl := hp.length_le
    rw [bw_size] at hpl
    refine Ev.bind (under_i h _ (by rw [wb_size]; omega)) ?_
    unfold underR
    rw [bw_wb, if_pos hsok, if_pos hm.1, under_shared h.ss hm.2]
    have ht2 := vTexts_ev ((underL ws (bw w)).map wb) ((underL ws (bw w)).map wb) (by have := under_length ws (bw w); have := h.le; rw [List.length_map]; omega)
    rw [decide_eq_true rfl] at ht2
    refine ev_pos rfl (ev_pos (by rw [wb_size]; omega) (ev_pos (by omega) (ev_pos (by rw [wb_size]; omega) (ev_pos ?_ (Ev.bind ht2 (ev_eq rfl))))))
    rw [extract_wb, toList_bw, toList_bw, bw_wb]
    have := (prefix_take.1 hp).2
    rwa [bw_size] at this
  have j1 : Ev (fun k => laws_FnPrefixes.j1 k w u.1 u.2 un.1 f.1 f.2 t) true := by
    refine Ev.step (fun k => by unfold laws_FnPrefixes.j1; rfl) (ev_ite (fun hf => ?_) (fun _ => j3))
    rcases hc with ⟨ws, h, rfl, rfl, _, _⟩ | ⟨rfl, _, _⟩
    case inr => exact absurd hf (by decide)
    by_cases hm : bw w ∈ ws
    case neg => unfold uniqR at hf; rw [if_neg hm] at hf; exact absurd hf (by decide)
    have hu : uniqR ws w = (wb (uniqL ws (bw w)), true) := by unfold uniqR; rw [if_pos hm]
    rw [hu]
    obtain ⟨q1, q2, q3⟩ := uniq_spec hm
    have hwo := h.ok _ hm
    have hpre : ∀ {q : Wd}, q <+: bw w → okW q := fun hq => ⟨Nat.le_trans hq.length_le hwo.1, fun b hb => hwo.2 b (hq.subset hb)⟩
    have hq := q1.length_le
    have hq12 := hwo.1
    rw [bw_size] at hq hq12
    refine Ev.bind (under_i h _ (by rw [wb_size]; omega)) ?_
    unfold underR
    rw [bw_wb, if_pos (hpre q1)]
    have j2 : Ev (fun k => laws_FnPrefixes.j2 k w (wb (uniqL ws (bw w))) un.1 f.1 f.2 false (trie ws)) true := by
      refine Ev.step (fun k => by unfold laws_FnPrefixes.j2; rfl) (ev_neg (by decide) (ev_ite (fun h0 => ?_) (fun _ => j3)))
      rw [wb_size] at h0
      have h0' : 0 < (uniqL ws (bw w)).length := by omega
      rw [wb_size, w64 (by omega) (by omega), show ((((uniqL ws (bw w)).length : Int) - 1)).toNat = (uniqL ws (bw w)).length - 1 by omega, extract_wb]
      refine ev_pos (by omega) (ev_pos (by omega) (Ev.bind (under_i h _ (by rw [wb_size, List.length_take]; omega)) ?_))
      unfold underR
      rw [bw_wb, if_pos (hpre ((List.take_prefix _ _).trans q1))]
      have := q3 h0'
      exact ev_pos rfl (ev_neg (by rw [List.length_map]; omega) j3)
    refine ev_pos rfl (ev_neg (by rw [wb_size]; omega) (ev_pos (by omega) (ev_pos (by rw [wb_size]; omega) (ev_pos ?_ ?_))))
    · rw [toList_bw, toList_bw, bw_wb, wb_size]
      have e := extract_wb (bw w) (uniqL ws (bw w)).length
      rw [wb_bw] at e
      rw [e, bw_wb]
      exact (prefix_take.1 q1).2
    · refine ev_ite (fun _ => j2) (fun hne => ?_)
      have hne2 : uniqL ws (bw w) ≠ bw w := fun e => hne (by rw [e, wb_bw])
      have := q2 hne2
      rw [List.length_map, this]
      exact j2
  have j0 : Ev (fun k => laws_FnPrefixes.j0 k w u.1 u.2 un.1 f.1 f.2 s.1 s.2 false t v) true := by
    refine Ev.step (fun k => by unfold laws_FnPrefixes.j0; rfl) (ev_neg (by decide) (ev_ite (fun hf => ?_) (fun _ => j1)))
    rcases hs with ⟨ws, h, rfl, rfl⟩ | rfl
    case inr => exact absurd hf (by decide)
    by_cases h0 : 0 < ws.length
    case neg => unfold sharedR at hf; rw [if_neg h0] at hf; exact absurd hf (by decide)
    have hu : sharedR ws = (wb (sharedL ws), true) := by unfold sharedR; rw [if_pos h0]
    rw [hu]
    have hmem := getD_mem' h0
    have hsp := shared_all h.ss hmem
    have hsok : okW (sharedL ws) := ⟨Nat.le_trans hsp.length_le (h.size hmem), fun b hb => (h.ok _ hmem).2 b (hsp.subset hb)⟩
    refine Ev.bind (full_i h _ (by decide)) (Ev.bind (under_i h _ (by rw [wb_size]; have := hsok.1; omega)) (Ev.bind (count_i h) ?_))
    have en : bw (⟨#[]⟩ : ByteArray) = [] := rfl
    unfold fullR underR
    rw [en, under_nil, bw_wb, if_pos ⟨⟨Nat.zero_le _, by simp⟩, h0⟩, if_pos hsok, under_eq (fun w hw => shared_all h.ss hw)]
    refine ev_pos rfl (ev_pos rfl (ev_pos rfl (ev_pos rfl (ev_pos (by rw [List.length_map]) j1))))
  rcases hc with ⟨ws, h, rfl, rfl, rfl, rfl⟩ | ⟨rfl, rfl, rfl⟩
  · refine ev_ite (fun hf => ?_) (fun hf => ?_)
    · have hm : okW (bw w) := by
        by_cases hm : okW (bw w)
        · exact hm
        · unfold underR at hf; rw [if_neg hm] at hf; exact absurd hf (by decide)
      have e : ((fullR ws w).2 != decide ((((underR ws w).1.length : Nat) : Int) > 0)) = false := by
        unfold fullR underR
        rw [if_pos hm]
        simp only [List.length_map]
        by_cases h0 : 0 < (underL ws (bw w)).length
        · rw [if_pos ⟨hm, h0⟩, decide_eq_true (by omega)]; rfl
        · rw [if_neg (fun e => h0 e.2), decide_eq_false (by omega)]; rfl
      rw [e]
      exact j0
    · have hm : ¬ okW (bw w) := fun hm => hf (by unfold underR; rw [if_pos hm])
      have e : ((fullR ws w).2 != false) = false := by unfold fullR; rw [if_neg (fun e => hm e.1)]; rfl
      rw [e]
      exact j0
  · exact ev_neg (by decide) j0
end Go.Proofs.YtcplbbflfgckbaaGreatDoor.Pure

