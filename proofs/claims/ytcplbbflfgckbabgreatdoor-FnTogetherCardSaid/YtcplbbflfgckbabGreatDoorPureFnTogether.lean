/- Plain: tries joined, met, without others, products, parts, differences, what is behind a prefix: both sides agree, and the laws between them hold. -/
import Derived.Test.YtcplbbflfgckbabGreatDoorX0
import Derived.Test.YtcplbbflfgckbabGreatDoorPu
set_option linter.unusedVariables false
set_option linter.unusedSimpArgs false
set_option linter.unusedVariables false
set_option linter.unusedSimpArgs false
namespace Go.Proofs.YtcplbbflfgckbabGreatDoor.Pure
open Go.RowKit Go.Ab.Pw Go.Proofs.YtcplbbflfgckbabGreatDoorW.PrintWords Go.Proofs.YtcplbbflfgckbabGreatDoorW.PrintLast Go.Proofs.YtcplbbflfgckbabGreatDoorW.PrintMore Go.Proofs.YtcplbbflfgckbabGreatDoor.X Go.Proofs.YtcplbbflfgckbabGreatDoor.Pl
variable {ws vs : List Wd}
theorem bneF (b : Bool) : ¬ ((b != b) = true) := by simp
theorem vTrie_ev (a : List ND) (ha : a.length ≤ 1000000) : Ev (fun k => laws_vTrie.f k a a) true := by
  unfold laws_vTrie.f
  refine ev_pos rfl ?_
  have key : ∀ d i, a.length - i = d → i ≤ a.length → Ev (fun k => laws_vTrie.l0 k (i : Nat) a a) true := by
    intro d
    induction d with
    | zero => exact fun i hd hi => Ev.step (fun k => by unfold laws_vTrie.l0; rfl) (ev_neg (by omega) (ev_eq rfl))
    | succ d ih =>
      intro i hd hi
      refine Ev.step (fun k => by unfold laws_vTrie.l0; rfl) (ev_pos (by omega) (ev_pos (by omega) (ev_pos (by omega) (ev_neg (by simp) ?_))))
      rw [inc (by omega)]
      exact ih (i + 1) (by omega) (by omega)
  exact key _ 0 rfl (Nat.zero_le _)
theorem noTwo {α : Type} {a b : List ND} (ha : a.length ≤ 482) (hb : b.length ≤ 482) (h : ¬ (isT a = true ∧ isT b = true)) {G : Nat → Bool → Option α} {E : Nat → Option α} {r : α} (h1 : Ev (fun k => G k false) r) (h2 : Ev E r) :
    Ev (fun k => (impl_isTrie.f k a).bind fun t => if t = true then (impl_isTrie.f k b).bind (G k) else E k) r := by
  refine Ev.bind (isTrie_ev a (by omega)) ?_
  cases hA : isT a with
  | false => exact ev_neg (by decide) h2
  | true =>
    refine ev_pos rfl (Ev.bind (isTrie_ev b (by omega)) ?_)
    cases hB : isT b with
    | false => exact h1
    | true => exact absurd ⟨hA, hB⟩ h
theorem makeR_yes {L : List Wd} (h : (makeR L).2 = true) : WOk (setW L) ∧ makeR L = (trie (setW L), true) := by
  unfold makeR ofR at *
  split at h
  · rename_i ho
    split at h
    · rename_i hl
      rw [if_pos ho, if_pos hl]
      exact ⟨wok_set ho hl, rfl⟩
    · cases h
  · cases h
theorem part_yes {ws vs : List Wd} (h : ∀ x ∈ ws, x ∈ vs) : partR ws vs = true := by
  unfold partR
  exact decide_eq_true (less_nil.2 h)
/-! ### what holds between the answers for two tries -/
theorem tail_yes (h : WOk ws) (h2 : WOk vs) : Ev (fun k => laws_FnTogether.j1 k (makeR (ws ++ vs)).2 true (makeR (timesL ws vs)).2 (partR ws vs) (differR ws vs) (trie ws) (trie vs) (makeR (ws ++ vs)).1 (trie (meetL ws vs)) (trie (lessL ws vs)) (makeR (timesL ws vs)).1) true := by
  have e1 := meet_less ws vs
  have e2 := meet_less vs ws
  have e3 := meet_comm h.ss h2.ss
  have e4 := join_len h.ss h2.ss
  have hl := h.le
  have hl2 := h2.le
  have hj := makeR_set (app_ok h h2)
  -- j4, j3
  have j4 : (makeR (timesL ws vs)).2 = true → 0 < ws.length → Ev (fun k => laws_FnTogether.j4 k true (trie ws) (trie vs) (makeR (timesL ws vs)).1) true := fun ht h0 => by
    obtain ⟨hw, e⟩ := makeR_yes ht
    rw [e]
    have hm : ws.getD 0 [] ∈ ws := by
      rw [List.getD_eq_getElem?_getD, List.getElem?_eq_getElem h0, Option.getD_some]
      exact List.getElem_mem _
    have ha := wordAt_i h 0
    unfold wordAtR at ha
    rw [if_pos (by unfold isAt; omega)] at ha
    have hz := h.size hm
    have hbd := behind_i hw (wb (ws.getD 0 [])) (by rw [wb_size]; omega)
    unfold behindR at hbd
    rw [bw_wb, if_pos (h.ok _ hm)] at hbd
    have hp := part_i h2 (hw.behind (ws.getD 0 []))
    rw [part_yes (times_behind hm)] at hp
    exact Ev.step (fun k => by unfold laws_FnTogether.j4; rfl) (ev_pos rfl (Ev.bind ha (Ev.bind hbd (Ev.bind hp (ev_pos rfl (ev_pos rfl (ev_pos rfl (ev_pos rfl (ev_eq rfl)))))))))
  have j4f : Ev (fun k => laws_FnTogether.j4 k false (trie ws) (trie vs) (makeR (timesL ws vs)).1) true := Ev.step (fun k => by unfold laws_FnTogether.j4; rfl) (ev_neg (by decide) (ev_eq rfl))
  have j3 : Ev (fun k => laws_FnTogether.j3 k (makeR (timesL ws vs)).2 (ws.length : Int) (trie ws) (trie vs) (makeR (timesL ws vs)).1) true := by
    refine Ev.step (fun k => by unfold laws_FnTogether.j3; rfl) (ev_ite (fun ht => ?_) (fun _ => j4f))
    by_cases h0 : 0 < ws.length
    · rw [decide_eq_true (show (ws.length : Int) > 0 by omega)]
      exact j4 ht h0
    · rw [decide_eq_false (show ¬ (ws.length : Int) > 0 by omega)]
      exact j4f
  have j2 : Ev (fun k => laws_FnTogether.j2 k (makeR (ws ++ vs)).2 (makeR (timesL ws vs)).2 (ws.length : Int) (vs.length : Int) ((meetL ws vs).length : Int) false (trie ws) (trie vs) (makeR (ws ++ vs)).1 (makeR (timesL ws vs)).1) true := by
    refine Ev.step (fun k => by unfold laws_FnTogether.j2; rfl) (ev_neg (by decide) (ev_ite (fun ht => ?_) (fun _ => j3)))
    obtain ⟨hw, e⟩ := makeR_yes ht
    rw [e]
    have hwl := hw.le
    have hp := part_i h hw
    rw [part_yes (fun x hx => (mem_setW _ _).2 (List.mem_append.2 (.inl hx)))] at hp
    exact Ev.bind (countWords_i hw) (Ev.bind hp (ev_pos rfl (ev_pos rfl (ev_pos (by rw [w64 (by omega) (by omega), w64 (by omega) (by omega)]; omega) (ev_pos rfl j3)))))
  refine Ev.step (fun k => by unfold laws_FnTogether.j1; rfl) (ev_pos rfl (Ev.bind (countWords_i h) (Ev.bind (countWords_i h2) (Ev.bind (countWords_i (meet_ok h h2)) (Ev.bind (countWords_i (less_ok h h2)) ?_)))))
  refine ev_pos rfl (ev_pos rfl (ev_pos rfl (ev_pos rfl (ev_pos (by rw [w64 (by omega) (by omega)]; omega) (ev_neg ?_ (ev_pos ?_ ?_))))))
  · unfold partR
    have : (((lessL ws vs).length : Int) == 0) = decide ((lessL ws vs).length = 0) := by rw [Bool.eq_iff_iff, beq_iff_eq, decide_eq_true_eq]; omega
    rw [this]; simp
  · unfold differR
    rw [w64 (x := (ws.length : Int) + vs.length) (by omega) (by omega), w64 (x := 2 * ((meetL ws vs).length : Int)) (by omega) (by omega), w64 (by omega) (by omega)]
    omega
  · have : ((makeR (ws ++ vs)).2 != decide (wrap64 (wrap64 ((ws.length : Int) + vs.length) - ((meetL ws vs).length : Int)) ≤ 40)) = false := by
      rw [hj, w64 (x := (ws.length : Int) + vs.length) (by omega) (by omega), w64 (by omega) (by omega)]
      split
      · rw [decide_eq_true (by omega)]; rfl
      · rw [decide_eq_false (by omega)]; rfl
    rw [this]
    exact j2
/-! ### what is behind a prefix, for any trie -/
theorem behind_any (u : List ND) (hu : u.length ≤ 482) (p : ByteArray) (hp : p.size ≤ 1000) : ∃ B, Ev (fun k => impl_BehindPrefix.f k u p) B ∧ Ev (fun k => spec_BehindPrefix.f k u p) B ∧ B.1.length ≤ 482 ∧
    (B.2 = true → ∃ us : List ByteArray, Ev (fun k => impl_CountWords.f k B.1) ((us.length : Int), true) ∧ Ev (fun k => impl_WordsUnder.f k u p) (us, true)) := by
  rcases isT_cases u with ⟨ws, h, rfl⟩ | h
  · refine ⟨behindR ws (bw p), behind_i h p hp, behind_s h p hp, ?_⟩
    unfold behindR
    by_cases ho : okW (bw p)
    · rw [if_pos ho]
      have hb := h.behind (bw p)
      have hlen := hb.len
      have hlen2 := h.len
      refine ⟨by show (trie _).length ≤ 482; omega, fun _ => ⟨(underL ws (bw p)).map wb, ?_, ?_⟩⟩
      · have := countWords_i hb
        rw [behind_len] at this
        rw [List.length_map]
        exact this
      · have hk := areKept_ev (trie ws) (by omega) p (by omega)
        rw [h.isT, Bool.true_and, decide_eq_true ho] at hk
        unfold impl_WordsUnder.f
        exact Ev.bind hk (ev_pos rfl (Ev.bind (h.under p) (ev_eq rfl)))
    · rw [if_neg ho]
      exact ⟨Nat.zero_le _, fun e => by cases e⟩
  · have hk := areKept_ev u (by omega) p (by omega)
    rw [h, Bool.false_and] at hk
    refine ⟨([], false), ?_, ?_, Nat.zero_le _, fun e => by cases e⟩
    · unfold impl_BehindPrefix.f
      exact Ev.bind hk (ev_neg (by decide) (ev_eq rfl))
    · unfold spec_BehindPrefix.f
      exact Ev.bind (noT_s (by omega) h) (ev_neg (by decide) (Ev.step (fun k => by unfold spec_BehindPrefix.j0; rfl) (ev_pos rfl (ev_eq rfl))))
theorem drawBehind_ev {l : List Int} (hl : isCodeB l) : ∃ r, Ev (fun k => spec_DrawBehindPrefix.f k l) r ∧ (r.1.length ≤ 482 ∧ r.2.size ≤ 1000) := by
  have h1 : ∃ r, Ev (fun k => spec_DrawUniquePrefix.f k l) r ∧ (r.1.length ≤ 482 ∧ r.2.size ≤ 1000) := by
    unfold spec_DrawUniquePrefix.f
    refine Dr.fin (trie_dr hl At.zero (by omega)) fun t a s g ht => ?_
    dsimp only
    exact Dr.fin (wordOf_dr hl g (by omega) t ht) fun w a s g hw => ⟨_, ev_eq rfl, ht, by show ByteArray.size w ≤ 1000; omega⟩
  obtain ⟨r, h2, h3⟩ := h1
  unfold spec_DrawBehindPrefix.f
  exact ⟨_, Ev.bind h2 (ev_eq rfl), h3⟩
/-! ### the answers for any two tries -/
theorem pair_any (a b : List ND) (ha : a.length ≤ 482) (hb : b.length ≤ 482) : ∃ (J M L T : List ND × Bool) (P : Bool × Bool) (D : Int × Bool),
    (Ev (fun k => impl_JoinTries.f k a b) J ∧ Ev (fun k => spec_JoinTries.f k a b) J ∧ Ev (fun k => impl_MeetTries.f k a b) M ∧ Ev (fun k => spec_MeetTries.f k a b) M ∧
    Ev (fun k => impl_WithoutTrie.f k a b) L ∧ Ev (fun k => spec_WithoutTrie.f k a b) L ∧ Ev (fun k => impl_TimesTrie.f k a b) T ∧ Ev (fun k => spec_TimesTrie.f k a b) T ∧
    Ev (fun k => impl_IsPartTrie.f k a b) P ∧ Ev (fun k => spec_IsPartTrie.f k a b) P ∧ Ev (fun k => impl_DifferTries.f k a b) D ∧ Ev (fun k => spec_DifferTries.f k a b) D) ∧
    (J.1.length ≤ 482 ∧ M.1.length ≤ 482 ∧ L.1.length ≤ 482 ∧ T.1.length ≤ 482) ∧ L.2 = M.2 ∧ P.2 = M.2 ∧ D.2 = M.2 ∧ (J.2 = true → M.2 = true) ∧
    Ev (fun k => laws_FnTogether.j1 k J.2 M.2 T.2 P.1 D.1 a b J.1 M.1 L.1 T.1) true := by
  by_cases h : isT a = true ∧ isT b = true
  · rcases isT_cases a with ⟨ws, hw, rfl⟩ | e
    · rcases isT_cases b with ⟨vs, hv, rfl⟩ | e
      · have h1 := (meet_ok hw hv).len
        have h2 := (less_ok hw hv).len
        refine ⟨makeR (ws ++ vs), (trie (meetL ws vs), true), (trie (lessL ws vs), true), makeR (timesL ws vs), (partR ws vs, true), (differR ws vs, true),
          ⟨join_i hw hv, join_s hw hv, meet_i hw hv, meet_s hw hv, less_i hw hv, less_s hw hv, times_i hw hv, times_s hw hv, part_i hw hv, part_s hw hv, differ_i hw hv, differ_s hw hv⟩,
          ⟨makeR_len _, by show (trie _).length ≤ 482; omega, by show (trie _).length ≤ 482; omega, makeR_len _⟩, rfl, rfl, rfl, fun _ => rfl, tail_yes hw hv⟩
      · rw [e] at h; cases h.2
    · rw [e] at h; cases h.1
  · have h2 := two_no (by omega) (by omega) h
    refine ⟨([], false), ([], false), ([], false), ([], false), (false, false), (0, false), ?_, ⟨Nat.zero_le _, Nat.zero_le _, Nat.zero_le _, Nat.zero_le _⟩, rfl, rfl, rfl, fun e => (by cases e), ?_⟩
    · refine ⟨?_, ?_, ?_, ?_, ?_, ?_, ?_, ?_, ?_, ?_, ?_, ?_⟩
      · unfold impl_JoinTries.f
        exact noTwo ha hb h (Ev.step (fun k => by unfold impl_JoinTries.j0; rfl) (ev_pos rfl (ev_eq rfl))) (Ev.step (fun k => by unfold impl_JoinTries.j0; rfl) (ev_pos rfl (ev_eq rfl)))
      · unfold spec_JoinTries.f
        exact Ev.bind h2 (ev_neg (by decide) (ev_eq rfl))
      · unfold impl_MeetTries.f
        exact noTwo ha hb h (ev_neg (by decide) (ev_eq rfl)) (ev_eq rfl)
      · unfold spec_MeetTries.f
        exact Ev.bind h2 (ev_neg (by decide) (ev_eq rfl))
      · unfold impl_WithoutTrie.f
        exact noTwo ha hb h (ev_neg (by decide) (ev_eq rfl)) (ev_eq rfl)
      · unfold spec_WithoutTrie.f
        exact Ev.bind h2 (ev_neg (by decide) (ev_eq rfl))
      · unfold impl_TimesTrie.f
        exact noTwo ha hb h (Ev.step (fun k => by unfold impl_TimesTrie.j0; rfl) (ev_pos rfl (ev_eq rfl))) (Ev.step (fun k => by unfold impl_TimesTrie.j0; rfl) (ev_pos rfl (ev_eq rfl)))
      · unfold spec_TimesTrie.f
        exact Ev.bind h2 (ev_neg (by decide) (ev_eq rfl))
      · unfold impl_IsPartTrie.f
        exact noTwo ha hb h (Ev.step (fun k => by unfold impl_IsPartTrie.j0; rfl) (ev_pos rfl (ev_eq rfl))) (Ev.step (fun k => by unfold impl_IsPartTrie.j0; rfl) (ev_pos rfl (ev_eq rfl)))
      · unfold spec_IsPartTrie.f
        exact Ev.bind h2 (ev_neg (by decide) (ev_eq rfl))
      · unfold impl_DifferTries.f
        exact noTwo ha hb h (Ev.step (fun k => by unfold impl_DifferTries.j0; rfl) (ev_pos rfl (ev_eq rfl))) (Ev.step (fun k => by unfold impl_DifferTries.j0; rfl) (ev_pos rfl (ev_eq rfl)))
      · unfold spec_DifferTries.f
        exact Ev.bind h2 (ev_neg (by decide) (ev_eq rfl))
    · exact Ev.step (fun k => by unfold laws_FnTogether.j1; rfl) (ev_neg (by decide) (ev_eq rfl))
/-! ### the law -/
theorem FnTogether : ∀ (l0 : List Int), (l0.length * 1 ≤ 140737488351232 ∧ ∀ y ∈ l0, (Lit.int .u8 y).wf = true) → ∃ k, laws_FnTogether.f k l0 = some true := by
  intro l ⟨_, hl0⟩
  have hl : isCodeB l := code_of_wf' hl0
  refine Ev.rounds (r := true) ?_
  unfold laws_FnTogether.f laws_vBig.f
  refine ev_some (ev_ite (fun _ => ev_eq rfl) (fun hbig => ?_))
  obtain ⟨l', hc, hl', _⟩ := vCut_ev hl (by have := hbig; simp at this; omega) (c := 1) (by omega)
  obtain ⟨⟨a, b⟩, hd1, ha, hb⟩ := drawJoin_ev hl
  obtain ⟨⟨u, p⟩, hd2, hu, hp⟩ := drawBehind_ev hl'
  simp only at ha hb hu hp
  obtain ⟨⟨J, j⟩, ⟨M, m⟩, ⟨L, q1⟩, ⟨T, t⟩, ⟨P, q2⟩, ⟨D, q3⟩, ⟨e1, e2, e3, e4, e5, e6, e7, e8, e9, e10, e11, e12⟩, ⟨s1, s2, s3, s4⟩, hL, hP, hD, hjm, hj1⟩ := pair_any a b ha hb
  obtain ⟨⟨B, bb⟩, b1, b2, s5, hB⟩ := behind_any u hu p hp
  simp only at s1 s2 s3 s4 s5 hL hP hD hjm hj1 hB
  have hL := hL.symm
  have hP := hP.symm
  have hD := hD.symm
  subst hL hP hD
  have j0 : Ev (fun k => laws_FnTogether.j0 k j m t P D p bb false a b J M L T u B) true := by
    refine Ev.step (fun k => by unfold laws_FnTogether.j0; rfl) (ev_neg (by decide) (ev_ite (fun hx => ?_) (fun _ => hj1)))
    obtain ⟨us, c1, c2⟩ := hB hx
    refine Ev.bind c1 ?_
    refine Ev.bind c2 ?_
    exact ev_pos rfl (ev_pos rfl (ev_pos rfl hj1))
  refine Ev.bind hd1 (Ev.bind e1 (Ev.bind e2 (Ev.bind e3 (Ev.bind e4 (Ev.bind e5 (Ev.bind e6 (Ev.bind e7 (Ev.bind e8 (Ev.bind e9 (Ev.bind e10 (Ev.bind e11 (Ev.bind e12 ?_))))))))))))
  rw [hc]
  refine ev_some (Ev.bind hd2 (Ev.bind b1 (Ev.bind b2 (ev_neg (bneF _) (Ev.bind (vTrie_ev J (by omega)) (ev_pos rfl (ev_neg (bneF _) (Ev.bind (vTrie_ev M (by omega)) (ev_pos rfl (ev_neg (bneF _) (Ev.bind (vTrie_ev L (by omega)) (ev_pos rfl (ev_neg (bneF _) (Ev.bind (vTrie_ev T (by omega)) (ev_pos rfl (ev_neg (bneF _) (ev_neg (bneF _) (ev_pos rfl (ev_neg (bneF _) (ev_neg (bneF _) (Ev.bind (vTrie_ev B (by omega)) (ev_pos rfl (ev_neg (bneF _) (ev_neg (bneF _) (ev_neg (bneF _) ?_)))))))))))))))))))))))))
  refine ev_ite (fun hx => ?_) (fun _ => j0)
  rw [hjm hx] at j0 ⊢
  exact j0
end Go.Proofs.YtcplbbflfgckbabGreatDoor.Pure
