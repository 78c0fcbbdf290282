/- Plain: the draws of records and logs answer. -/
import Derived.Test.YtnjjchbhbicmoaaDoorX10
import Derived.Test.YtnjjchbhbicmoaaDoorX12
import Derived.Test.YtnjjchbhbicmoaaDoorX13
import Derived.Test.YtnjjchbhbicmoaaDoorX14
import Derived.Test.YtnjjchbhbicmoaaDoorX17
import Derived.Test.YtnjjchbhbicmoaaDoorX18
import Derived.Test.YtnjjchbhbicmoaaDoorDraw
import Derived.Test.YtnjjchbhbicmoaaDoorLogMore
set_option linter.unusedVariables false
set_option linter.unusedSimpArgs false
namespace Go.Proofs.YtnjjchbhbicmoaaDoor.Pl
open Go.RowKit Go.Proofs.YtnjjchbhbicmoaaDoorW.PrintWords Go.Proofs.YtnjjchbhbicmoaaDoorW.PrintLast Go.Proofs.YtnjjchbhbicmoaaDoorW.PrintMore Go.Proofs.YtnjjchbhbicmoaaDoor.X
theorem code_of_wf {l : List Int} (h : ∀ y ∈ l, (Lit.int .u8 y).wf = true) : isCodeB l := fun y hy => by
  have := h y hy
  simp [Lit.wf, IntKind.min, IntKind.max, IntKind.signed, IntKind.bits] at this
  omega
theorem spec_LogRecords_ev (d p : ByteArray) (n : Int) (hd : d.size ≤ 1048576) (hp : p.size ≤ 1048576) : Ev (fun k => spec_LogRecords.f k d p n) (recsOf d p n) := by
  unfold spec_LogRecords.f
  refine Ev.bind (l12Valid_ev d p n hd hp) ?_
  cases hok : okLog d p n with
  | true =>
    obtain ⟨_, _, hs⟩ := okLog_n hok
    rw [recsOf_ok hok]
    refine ev_pos rfl (ev_pos (by omega) (Ev.bind (open_all (d ++ p) (by rw [size_append]; omega)) (ev_eq rfl)))
  | false =>
    rw [recsOf_no hok]
    exact ev_neg (by simp) (ev_eq rfl)
theorem small_mem {ts : List ByteArray} {b : ByteArray} {m : Nat} (h : b ∈ ts) (hs : ts.all (fun t => decide (t.size ≤ m)) = true) : b.size ≤ m := of_decide_eq_true (List.all_eq_true.1 hs b h)
theorem logRecord_ev {l : List Int} (hl : isCodeB l) {n : Nat} {a s : Int} (h : At n a) (hn : n ≤ 100000) : ∃ c r a' s', spec_l1Cur_logRecord.f l a s = some (c, r, a', s') ∧ At (n + 8) a' ∧ c.size ≤ 10 ∧ r.size ≤ 10 := by
  unfold spec_l1Cur_logRecord.f
  obtain ⟨c, a1, s1, e1, g1, m1⟩ := of_ev hl (s := s) h (by omega) ([(⟨#[119, 111, 114, 100, 115]⟩ : ByteArray), (⟨#[97, 100, 100, 32, 97, 98]⟩ : ByteArray), (⟨#[120]⟩ : ByteArray), (⟨#[114, 97, 110, 107, 32, 98]⟩ : ByteArray), (⟨#[97, 98]⟩ : ByteArray)] : List ByteArray) (by decide)
  obtain ⟨r, a2, s2, e2, g2, m2⟩ := of_ev hl (s := s1) g1 (by omega) ([(⟨#[]⟩ : ByteArray), (⟨#[51]⟩ : ByteArray), (⟨#[63]⟩ : ByteArray), (⟨#[97, 64, 98]⟩ : ByteArray), (⟨#[51, 32, 49, 32, 50]⟩ : ByteArray)] : List ByteArray) (by decide)
  obtain ⟨b, a3, s3, e3, g3, _⟩ := pick_ev hl (s := s2) g2 (by omega) 24
  have hc := small_mem (m := 10) m1 (by decide)
  have hr := small_mem (m := 10) m2 (by decide)
  rw [e1]; simp only [Option.bind_some]
  rw [e2]; simp only [Option.bind_some]
  rw [e3]; simp only [Option.bind_some]
  by_cases h0 : b = 0
  · rw [if_pos h0, if_pos (by decide)]
    obtain ⟨c2, a4, s4, e4, g4, m4⟩ := of_ev hl (s := s3) g3 (by omega) ([(⟨#[]⟩ : ByteArray), (⟨#[97, 64, 98]⟩ : ByteArray), (⟨#[97, 35]⟩ : ByteArray), (⟨#[10]⟩ : ByteArray), strOfNums (List.replicate 3 0)] : List ByteArray) (by decide)
    rw [e4]
    exact ⟨_, _, _, _, rfl, g4.le (by omega), small_mem (m := 10) m4 (by decide), hr⟩
  · rw [if_neg h0]
    by_cases h1 : b = 1
    · rw [if_pos h1]
      obtain ⟨c2, a4, s4, e4, g4, m4⟩ := of_ev hl (s := s3) g3 (by omega) ([(⟨#[35]⟩ : ByteArray), (⟨#[10]⟩ : ByteArray), (⟨#[127]⟩ : ByteArray)] : List ByteArray) (by decide)
      rw [e4]
      exact ⟨_, _, _, _, rfl, g4.le (by omega), hc, small_mem (m := 10) m4 (by decide)⟩
    · rw [if_neg h1]
      exact ⟨_, _, _, _, rfl, g3.le (by omega), hc, hr⟩
theorem drawRecord_ev {l : List Int} (hl : isCodeB l) : ∃ t : ByteArray × ByteArray, spec_DrawIsValidRecord.f l = some t ∧ t.1.size ≤ 10 ∧ t.2.size ≤ 10 := by
  unfold spec_DrawIsValidRecord.f
  obtain ⟨c, r, a, s, e, _, hc, hr⟩ := logRecord_ev hl (s := 0) (a := 0) (n := 0) ⟨by omega, by omega⟩ (by omega)
  rw [e]
  exact ⟨_, rfl, hc, hr⟩
theorem drawEncode_ev {l : List Int} (hl : isCodeB l) : ∃ t : Int × ByteArray × ByteArray, spec_DrawEncodeRecord.f l = some t ∧ t.2.1.size ≤ 10 ∧ t.2.2.size ≤ 10 := by
  unfold spec_DrawEncodeRecord.f
  obtain ⟨k, a1, s1, e1, g1, _⟩ := among_ev hl (s := 0) (a := 0) (n := 0) ⟨by omega, by omega⟩ (by omega) ([0, 1, 12, 39, 40, (-1)] : List Int) (by decide)
  rw [e1]; simp only [Option.bind_some]
  obtain ⟨c, r, a, s, e, _, hc, hr⟩ := logRecord_ev hl (s := s1) g1 (by omega)
  rw [e]
  exact ⟨_, rfl, hc, hr⟩
/-- What a record more adds at the most. -/
theorem app_grow {d p : ByteArray} {n : Int} {c r : ByteArray} : (appOf d p n c r).1 = d ∧ (appOf d p n c r).2.1.size ≤ p.size + 800 := by
  unfold appOf
  by_cases h : okLog d p n = true ∧ recB c r = true
  · rw [if_pos h]
    by_cases h40 : n = 40
    · rw [if_pos h40]; exact ⟨rfl, by first | omega | (simp only; omega)⟩
    · rw [if_neg h40]
      obtain ⟨q1, q2, q3⟩ := okLog_n h.1
      obtain ⟨r1, r2, _⟩ := recB_parts h.2
      have a1 := body_size n c r
      have a2 := sum_size (bodyB n c r)
      have a3 := seal_size (bodyB n c r)
      have a4 := numI_size (n := n) (by omega) (by omega)
      have a5 : (lineB n c r).size = (sealB (bodyB n c r)).size + 1 := by unfold lineB; rw [size_append]; rfl
      exact ⟨rfl, by simp only [size_append]; omega⟩
  · rw [if_neg h]; exact ⟨rfl, by first | omega | (simp only; omega)⟩
theorem specSync_ev (d p : ByteArray) (n : Int) (hd : d.size ≤ 1000000) (hp : p.size ≤ 1000000) : ∃ t : ByteArray × ByteArray × Int × Bool, Ev (fun k => spec_SyncLog.f k d p n) t ∧ t.1.size + t.2.1.size ≤ d.size + p.size := by
  unfold spec_SyncLog.f
  have e1 := l12Valid_ev d p n (by omega) (by omega)
  cases hok : okLog d p n with
  | true =>
    rw [hok] at e1
    exact ⟨(d ++ p, (⟨#[]⟩ : ByteArray), n, true), Ev.bind e1 (ev_pos rfl (ev_pos (by first | omega | (simp only; omega)) (ev_eq rfl))), by simp only [size_append]; exact Nat.le_refl _⟩
  | false =>
    rw [hok] at e1
    exact ⟨((⟨#[]⟩ : ByteArray), (⟨#[]⟩ : ByteArray), (0 : Int), false), Ev.bind e1 (ev_neg (by simp) (ev_eq rfl)), Nat.zero_le _⟩
theorem log12_ev {l : List Int} (hl : isCodeB l) : ∃ t : ByteArray × ByteArray × Int × Int × Int, Ev (fun k => spec_l1Cur_log12.f k l 0 0) t ∧ At 100 t.2.2.2.1 ∧ t.1.size + t.2.1.size ≤ 10000 ∧ t.2.2.1 ≤ 100 ∧ -100 ≤ t.2.2.1 := by
  unfold spec_l1Cur_log12.f
  obtain ⟨b, a0, s0, e0, g0, b0, b1⟩ := pick_ev hl (s := 0) (a := 0) (n := 0) ⟨by omega, by omega⟩ (by omega) 7
  have hb := b1 (by omega)
  rw [e0]
  obtain ⟨m, rfl⟩ : ∃ m : Nat, b = m := ⟨b.toNat, by omega⟩
  have key : ∀ (m : Nat) (d p : ByteArray) (n : Int) (a s : Int) (c : Nat), m ≤ 6 → At c a → c + 10 * m ≤ 100 → d.size + p.size + 800 * m ≤ 10000 → -100 ≤ n → n + m ≤ 100 →
      ∃ t : ByteArray × ByteArray × Int × Int × Int, Ev (fun k => spec_l1Cur_log12.l0 k (m : Nat) l a s d p n) t ∧ At 100 t.2.2.2.1 ∧ t.1.size + t.2.1.size ≤ 10000 ∧ t.2.2.1 ≤ 100 ∧ -100 ≤ t.2.2.1 := by
    intro m
    induction m with
    | zero =>
      intro d p n a s c _ g hc hs hn hn2
      exact ⟨(d, p, n, a, s), Ev.step (fun k => by unfold spec_l1Cur_log12.l0; rfl) (ev_neg (by omega) (ev_eq rfl)), g.le (by omega), by first | omega | (simp only; omega), by first | omega | (simp only; omega), by first | omega | (simp only; omega)⟩
    | succ m ih =>
      intro d p n a s c hm g hc hs hn hn2
      obtain ⟨rc, rr, a1, s1, e1, g1, z1, z2⟩ := logRecord_ev hl (s := s) g (by omega)
      obtain ⟨q1, q2⟩ := app_grow (d := d) (p := p) (n := n) (c := rc) (r := rr)
      have hcount : (appOf d p n rc rr).2.2.1 ≤ n + 1 ∧ n ≤ (appOf d p n rc rr).2.2.1 := by
        unfold appOf
        by_cases h : okLog d p n = true ∧ recB rc rr = true
        · rw [if_pos h]
          by_cases h40 : n = 40
          · rw [if_pos h40]; exact ⟨by first | omega | (simp only; omega), by first | omega | (simp only; omega)⟩
          · rw [if_neg h40]; exact ⟨by first | omega | (simp only; omega), by first | omega | (simp only; omega)⟩
        · rw [if_neg h]; exact ⟨by first | omega | (simp only; omega), by first | omega | (simp only; omega)⟩
      obtain ⟨b2, a2, s2, e2, g2⟩ := one_ev hl (s := s1) g1 (by omega) 4
      have hdec : wrap64 (((m + 1 : Nat) : Int) - 1) = (m : Int) := by rw [w64 (by omega) (by omega)]; omega
      have happ := spec_AppendRecord_ev d p n rc rr (by omega) (by omega) (by omega) (by omega)
      rw [← q1] at hs
      generalize hap : appOf d p n rc rr = ap at happ q1 q2 hcount hs
      obtain ⟨d1, p1, n1, st⟩ := ap
      simp only at q1 q2 hcount hs
      have hs1 : d1.size + p1.size + 800 * m ≤ 10000 := by omega
      cases hb2 : b2 with
      | true =>
        obtain ⟨⟨d2, p2, n2, o2⟩, h2, h3⟩ := specSync_ev d1 p1 n1 (by omega) (by omega)
        have hn2' : n2 = n1 ∨ n2 = 0 := by
          have e1 := l12Valid_ev d1 p1 n1 (by omega) (by omega)
          have key2 : Ev (fun k => spec_SyncLog.f k d1 p1 n1) (if okLog d1 p1 n1 = true then (d1 ++ p1, (⟨#[]⟩ : ByteArray), n1, true) else ((⟨#[]⟩ : ByteArray), (⟨#[]⟩ : ByteArray), (0 : Int), false)) := by
            unfold spec_SyncLog.f
            refine Ev.bind e1 (ev_ite (fun h => ?_) (fun h => ?_))
            · rw [if_pos h]; exact ev_pos (by first | omega | (simp only; omega)) (ev_eq rfl)
            · rw [if_neg h]; exact ev_eq rfl
          have := ev_uniq h2 key2
          by_cases h : okLog d1 p1 n1 = true
          · rw [if_pos h] at this; simp at this; exact .inl this.2.2.1
          · rw [if_neg h] at this; simp at this; exact .inr this.2.2.1
        simp only at h3
        obtain ⟨t, ht, r1, r2, r3, r4⟩ := ih d2 p2 n2 a2 s2 (c + 10) (by omega) (g2.le (by omega)) (by omega) (by omega) (by rcases hn2' with h | h <;> omega) (by rcases hn2' with h | h <;> omega)
        refine ⟨t, Ev.step (fun k => by unfold spec_l1Cur_log12.l0; rfl) (ev_pos (by omega) ?_), r1, r2, r3, r4⟩
        rw [e1]
        refine ev_some (Ev.bind happ ?_)
        rw [e2, hb2]
        refine ev_some (ev_pos rfl (Ev.bind h2 ?_))
        rw [hdec]
        exact ht
      | false =>
        obtain ⟨t, ht, r1, r2, r3, r4⟩ := ih d1 p1 n1 a2 s2 (c + 10) (by omega) (g2.le (by omega)) (by omega) (by omega) (by omega) (by omega)
        refine ⟨t, Ev.step (fun k => by unfold spec_l1Cur_log12.l0; rfl) (ev_pos (by omega) ?_), r1, r2, r3, r4⟩
        rw [e1]
        refine ev_some (Ev.bind happ ?_)
        rw [e2, hb2]
        refine ev_some (ev_neg (by simp) ?_)
        rw [hdec]
        exact ht
  obtain ⟨t, ht, r⟩ := key m (⟨#[]⟩ : ByteArray) (⟨#[]⟩ : ByteArray) 0 a0 s0 2 (by omega) (g0.le (by omega)) (by omega) (by have : (⟨#[]⟩ : ByteArray).size = 0 := rfl; omega) (by omega) (by omega)
  exact ⟨t, ev_some ht, r⟩
theorem anyLog_ev {l : List Int} (hl : isCodeB l) : ∃ t : ByteArray × ByteArray × Int × Int × Int, Ev (fun k => spec_l1Cur_anyLog.f k l 0 0) t ∧ At 200 t.2.2.2.1 ∧ t.1.size ≤ 100000 ∧ t.2.1.size ≤ 100000 := by
  unfold spec_l1Cur_anyLog.f
  obtain ⟨⟨d, p, n, a, s⟩, h, g, hs, hn, hn2⟩ := log12_ev hl
  simp only at g hs hn hn2
  obtain ⟨b, a1, s1, e1, g1, _⟩ := pick_ev hl (s := s) g (by omega) 24
  by_cases h0 : b = 0
  · exact ⟨(d, p, wrap64 (n + 1), a1, s1), Ev.bind h (by rw [e1]; exact ev_some (ev_pos h0 (ev_eq rfl))), g1.le (by omega), by first | omega | (simp only; omega), by first | omega | (simp only; omega)⟩
  · by_cases h1 : b = 1
    · obtain ⟨q, a2, s2, e2, g2, z2⟩ := spoilt_ev hl (s := s1) g1 (by omega) p (⟨#[35, 64, 10, 48, 49]⟩ : ByteArray) (by omega) (by decide) (by decide)
      have hw : (⟨#[35, 64, 10, 48, 49]⟩ : ByteArray).size = 5 := rfl
      rw [hw] at z2
      exact ⟨(d, q, n, a2, s2), Ev.bind h (by rw [e1]; exact ev_some (ev_neg h0 (ev_pos h1 (by rw [e2]; exact ev_some (ev_eq rfl))))), g2.le (by omega), by first | omega | (simp only; omega), by first | omega | (simp only; omega)⟩
    · by_cases h2 : b = 2
      · exact ⟨(d ++ p, p, n, a1, s1), Ev.bind h (by rw [e1]; exact ev_some (ev_neg h0 (ev_neg h1 (ev_pos h2 (ev_pos (by first | omega | (simp only; omega)) (ev_eq rfl)))))), g1.le (by omega), by simp only [size_append]; omega, by first | omega | (simp only; omega)⟩
      · exact ⟨(d, p, n, a1, s1), Ev.bind h (by rw [e1]; exact ev_some (ev_neg h0 (ev_neg h1 (ev_neg h2 (ev_eq rfl))))), g1.le (by omega), by first | omega | (simp only; omega), by first | omega | (simp only; omega)⟩
theorem drawLog_ev {l : List Int} (hl : isCodeB l) : ∃ t : ByteArray × ByteArray × Int, Ev (fun k => spec_DrawIsValidLog.f k l) t ∧ t.1.size ≤ 100000 ∧ t.2.1.size ≤ 100000 := by
  unfold spec_DrawIsValidLog.f
  obtain ⟨t, h, _, h1, h2⟩ := anyLog_ev hl
  exact ⟨_, Ev.bind h (ev_eq rfl), h1, h2⟩
theorem drawAppend_ev {l : List Int} (hl : isCodeB l) : ∃ t : ByteArray × ByteArray × Int × ByteArray × ByteArray, Ev (fun k => spec_DrawAppendRecord.f k l) t ∧ t.1.size ≤ 1000000 ∧ t.2.1.size ≤ 1000000 ∧ t.2.2.2.1.size ≤ 100000 ∧ t.2.2.2.2.size ≤ 100000 := by
  unfold spec_DrawAppendRecord.f
  obtain ⟨⟨d, p, n, a, s⟩, h, g, hs1, hs2⟩ := anyLog_ev hl
  simp only at g hs1 hs2
  obtain ⟨b, a1, s1, e1, g1⟩ := one_ev hl (s := s) g (by omega) 40
  cases hb : b with
  | false =>
    obtain ⟨c, r, a2, s2, e2, g2, z1, z2⟩ := logRecord_ev hl (s := s1) g1 (by omega)
    exact ⟨_, Ev.bind h (by rw [e1, hb]; exact ev_some (ev_neg (by simp) (by rw [e2]; exact ev_some (ev_eq rfl)))), by first | omega | (simp only; omega), by first | omega | (simp only; omega), by first | omega | (simp only; omega), by first | omega | (simp only; omega)⟩
  | true =>
    obtain ⟨c, a2, s2, e2, g2, c0, c1⟩ := pick_ev hl (s := s1) g1 (by omega) 2
    have hc := c1 (by omega)
    obtain ⟨m, hm⟩ : ∃ m : Nat, wrap64 (39 + c) = m := ⟨(39 + c).toNat, by rw [w64 (by omega) (by omega)]; omega⟩
    have hm40 : m ≤ 40 := by rw [w64 (by omega) (by omega)] at hm; omega
    have key : ∀ (m : Nat) (d p : ByteArray) (n : Int), m ≤ 40 → d.size ≤ 100000 → p.size + 800 * m ≤ 100000 →
        ∃ t : ByteArray × ByteArray × Int × ByteArray × ByteArray, Ev (fun k => spec_DrawAppendRecord.l0 k (m : Nat) l a2 s2 d p n) t ∧ t.1.size ≤ 1000000 ∧ t.2.1.size ≤ 1000000 ∧ t.2.2.2.1.size ≤ 100000 ∧ t.2.2.2.2.size ≤ 100000 := by
      intro m
      induction m with
      | zero =>
        intro d p n _ hd hp
        obtain ⟨rc, rr, a3, s3, e3, g3, z1, z2⟩ := logRecord_ev hl (s := s2) g2 (by omega)
        refine ⟨(d, p, n, rc, rr), Ev.step (fun k => by unfold spec_DrawAppendRecord.l0; rfl) (ev_neg (by omega) ?_), by first | omega | (simp only; omega), by first | omega | (simp only; omega), by first | omega | (simp only; omega), by first | omega | (simp only; omega)⟩
        rw [e3]; exact ev_some (ev_eq rfl)
      | succ m ih =>
        intro d p n hm hd hp
        have hx : (⟨#[120]⟩ : ByteArray).size = 1 := rfl
        have he : (⟨#[]⟩ : ByteArray).size = 0 := rfl
        have happ := spec_AppendRecord_ev d p n (⟨#[120]⟩ : ByteArray) (⟨#[]⟩ : ByteArray) (by omega) (by omega) (by omega) (by omega)
        obtain ⟨q1, q2⟩ := app_grow (d := d) (p := p) (n := n) (c := (⟨#[120]⟩ : ByteArray)) (r := (⟨#[]⟩ : ByteArray))
        generalize appOf d p n (⟨#[120]⟩ : ByteArray) (⟨#[]⟩ : ByteArray) = ap at happ q1 q2
        obtain ⟨d1, p1, n1, st⟩ := ap
        simp only at q1 q2
        subst q1
        obtain ⟨t, ht, r⟩ := ih d1 p1 n1 (by omega) hd (by omega)
        refine ⟨t, Ev.step (fun k => by unfold spec_DrawAppendRecord.l0; rfl) (ev_pos (by omega) (Ev.bind happ ?_)), r⟩
        rw [show wrap64 (((m + 1 : Nat) : Int) - 1) = (m : Int) by rw [w64 (by omega) (by omega)]; omega]
        exact ht
    obtain ⟨t, ht, r⟩ := key m (⟨#[]⟩ : ByteArray) (⟨#[]⟩ : ByteArray) 0 hm40 (by decide) (by have : (⟨#[]⟩ : ByteArray).size = 0 := rfl; omega)
    refine ⟨t, Ev.bind h ?_, r⟩
    rw [e1, hb]
    refine ev_some (ev_pos rfl ?_)
    rw [e2]
    refine ev_some ?_
    simp only [hm]
    exact ht
end Go.Proofs.YtnjjchbhbicmoaaDoor.Pl
