/- Plain: what is read of a log that a crash has cut. -/
import Derived.Test.YtnjjchbhbicmoaaDoorX9
import Derived.Test.YtnjjchbhbicmoaaDoorX14
import Derived.Test.YtnjjchbhbicmoaaDoorCrash
import Derived.Test.YtnjjchbhbicmoaaDoorDrawLog
set_option linter.unusedVariables false
set_option linter.unusedSimpArgs false
namespace Go.Proofs.YtnjjchbhbicmoaaDoor.Pl
open Go.RowKit Go.Proofs.YtnjjchbhbicmoaaDoorW.PrintWords Go.Proofs.YtnjjchbhbicmoaaDoorW.PrintLast Go.Proofs.YtnjjchbhbicmoaaDoorW.PrintMore Go.Proofs.YtnjjchbhbicmoaaDoor.X
theorem lens_app (a b : List (S33 × Nat)) : lens (a ++ b) = lens a + lens b := by simp [lens]
/-- Behind what is read whole, the reading goes on. -/
theorem rdAll_app (f : Nat) : ∀ (n : Nat) (t x : ByteArray), lens (rdAll f n t) = t.size → rdAll f n (t ++ x) = rdAll f n t ++ rdAll (f - (rdAll f n t).length) (n + (rdAll f n t).length) x := by
  induction f with
  | zero => intro n t x _; rw [rdAll_zero, rdAll_zero, List.nil_append, Nat.zero_sub, rdAll_zero]
  | succ f ih =>
    intro n t x hl
    rcases rdAll_cases f n t with ⟨e, _⟩ | ⟨c, r, h10, hd, e⟩
    · rw [e] at hl ⊢
      have hs0 : bytesOf t = [] := nil_of_size (by rw [← hl]; rfl)
      have e1 : t ++ x = x := bytes_inj (by rw [bytes_append, hs0]; rfl)
      rw [e1]; rfl
    · rw [e] at hl ⊢
      rw [lens_cons] at hl
      have h1 := tailB_size 10 t
      have h2 := mem10_lt h10
      have eh : headB 10 (t ++ x) = headB 10 t := bytes_inj (by rw [headB_bytes, headB_bytes, bytes_append, takeTo_append h10])
      have et : tailB 10 (t ++ x) = tailB 10 t ++ x := by
        refine bytes_inj ?_
        rw [tailB_bytes, bytes_append, bytes_append, tailB_bytes, takeTo_append h10, List.drop_append_of_le_length]
        have := takeTo_lt h10; omega
      rw [rdAll_ok (c := c) (r := r) (by rw [bytes_append]; exact List.mem_append_left _ h10) (by rw [eh]; exact hd), eh, et, ih (n + 1) (tailB 10 t) x (by simp only at hl; omega), List.length_cons]
      rw [show f + 1 - ((rdAll f (n + 1) (tailB 10 t)).length + 1) = f - (rdAll f (n + 1) (tailB 10 t)).length by omega, show n + ((rdAll f (n + 1) (tailB 10 t)).length + 1) = n + 1 + (rdAll f (n + 1) (tailB 10 t)).length by omega]
      rfl
theorem cut_at {B T q : List Int} (h : B = T ++ 10 :: q) (m : Nat) : B.take (T.length + 1 + m) = T ++ 10 :: q.take m ∧ B.drop (T.length + 1) = q := by
  subst h
  constructor
  · rw [List.take_append, List.take_of_length_le (by omega), show T.length + 1 + m - T.length = m + 1 by omega]; rfl
  · rw [List.drop_append, List.drop_eq_nil_iff.2 (by omega), show T.length + 1 - T.length = 1 by omega]; rfl
theorem take_split {c : Int} : ∀ {l : List Int}, c ∈ l → ∃ q, l = takeTo c l ++ c :: q
  | a :: l, h => by
    unfold takeTo
    by_cases hc : a = c
    · rw [if_pos hc, hc]; exact ⟨l, rfl⟩
    · rw [if_neg hc]
      obtain ⟨q, hq⟩ := take_split (c := c) (l := l) ((List.mem_cons.1 h).resolve_left (fun e => hc e.symm))
      exact ⟨q, by rw [List.cons_append, ← hq]⟩
/-- What has been read, by itself. -/
theorem rdAll_part (f : Nat) : ∀ (n : Nat) (s : ByteArray), rdAll f n (s.extract 0 (lens (rdAll f n s))) = rdAll f n s := by
  induction f with
  | zero => intro n s; rw [rdAll_zero, rdAll_zero]
  | succ f ih =>
    intro n s
    rcases rdAll_cases f n s with ⟨e, _⟩ | ⟨c, r, h10, hd, e⟩
    · rw [e]
      refine rdAll_no (fun h => ?_)
      rw [bytes_extract, show lens ([] : List (S33 × Nat)) = 0 from rfl] at h
      simp at h
    · rw [e, lens_cons]
      have h2 := mem10_lt h10
      have hlt := takeTo_lt h10
      have ht := takeTo_take 10 (bytesOf s)
      obtain ⟨m, hm⟩ : ∃ m, m = lens (rdAll f (n + 1) (tailB 10 s)) := ⟨_, rfl⟩
      have hih := ih (n + 1) (tailB 10 s)
      rw [← hm] at hih ⊢
      have hh := headB_size 10 s
      simp only
      -- the first line stands in what is cut
      obtain ⟨q, hq⟩ : ∃ q : List Int, bytesOf s = takeTo 10 (bytesOf s) ++ 10 :: q := take_split h10
      have hb : bytesOf (s.extract 0 ((headB 10 s).size + 1 + m)) = takeTo 10 (bytesOf s) ++ 10 :: q.take m := by
        rw [bytes_extract, List.drop_zero, Nat.sub_zero, hh]
        exact (cut_at hq m).1
      have eh : headB 10 (s.extract 0 ((headB 10 s).size + 1 + m)) = headB 10 s := bytes_inj (by rw [headB_bytes, headB_bytes, hb, takeTo_at (takeTo_free 10 _)])
      have et : tailB 10 (s.extract 0 ((headB 10 s).size + 1 + m)) = (tailB 10 s).extract 0 m := by
        refine bytes_inj ?_
        rw [tailB_bytes, hb, takeTo_at (takeTo_free 10 _), bytes_extract, tailB_bytes, List.drop_zero, Nat.sub_zero]
        have e2 : (bytesOf s).drop ((takeTo 10 (bytesOf s)).length + 1) = q := (cut_at hq m).2
        rw [e2, List.drop_append, List.drop_eq_nil_iff.2 (by omega)]
        simp
      rw [rdAll_ok (c := c) (r := r) (by rw [hb]; simp) (by rw [eh]; exact hd), eh, et, hih]
/-- A text that goes on otherwise, without an end of a line, is read as the beginning of what the other one is read as. -/
theorem rdAll_cut (f : Nat) : ∀ (n : Nat) (u v w : ByteArray), (10 : Int) ∉ bytesOf v → rdAll f n (u ++ v) <+: rdAll f n (u ++ w) := by
  induction f with
  | zero => intro n u v w _; rw [rdAll_zero]; exact List.nil_prefix
  | succ f ih =>
    intro n u v w hv
    rcases rdAll_cases f n (u ++ v) with ⟨e, _⟩ | ⟨c, r, h10, hd, e⟩
    · rw [e]; exact List.nil_prefix
    · have hu : (10 : Int) ∈ bytesOf u := by
        rw [bytes_append, List.mem_append] at h10
        exact h10.resolve_right hv
      have eh : ∀ x : ByteArray, headB 10 (u ++ x) = headB 10 u := fun x => bytes_inj (by rw [headB_bytes, headB_bytes, bytes_append, takeTo_append hu])
      have et : ∀ x : ByteArray, tailB 10 (u ++ x) = tailB 10 u ++ x := fun x => by
        refine bytes_inj ?_
        rw [tailB_bytes, bytes_append, bytes_append, tailB_bytes, takeTo_append hu, List.drop_append_of_le_length]
        have := takeTo_lt hu; omega
      rw [e, rdAll_ok (t := u ++ w) (c := c) (r := r) (by rw [bytes_append]; exact List.mem_append_left _ hu) (by rw [eh, ← eh v]; exact hd), eh, eh, et, et]
      exact (List.prefix_append_right_inj [_]).2 (ih (n + 1) (tailB 10 u) v w hv)
/-- The bytes of what is read whole. -/
theorem rdAll_range (f : Nat) : ∀ (n : Nat) (t : ByteArray), lens (rdAll f n t) = t.size → ∀ y ∈ bytesOf t, y = 10 ∨ (32 ≤ y ∧ y ≤ 126) := by
  induction f with
  | zero =>
    intro n t hl y hy
    rw [rdAll_zero] at hl
    rw [nil_of_size (s := t) (by rw [← hl]; rfl)] at hy; cases hy
  | succ f ih =>
    intro n t hl y hy
    rcases rdAll_cases f n t with ⟨e, _⟩ | ⟨c, r, h10, hd, e⟩
    · rw [e] at hl
      rw [nil_of_size (s := t) (by rw [← hl]; rfl)] at hy; cases hy
    · rw [e, lens_cons] at hl
      have h1 := tailB_size 10 t
      have h2 := mem10_lt h10
      obtain ⟨q, hq⟩ := take_split h10
      have hdl := dec_some hd
      rw [hq] at hy
      rcases List.mem_append.1 hy with h | h
      · right
        rw [← headB_bytes, hdl.seal] at h
        exact seal_range hdl.1 y h
      · rcases List.mem_cons.1 h with h | h
        · exact .inl h
        · refine ih (n + 1) (tailB 10 t) (by simp only at hl; omega) y ?_
          rw [tailB_bytes]
          have e2 : (bytesOf t).drop ((takeTo 10 (bytesOf t)).length + 1) = q := (cut_at hq 0).2
          rw [e2]; exact h
/-- What is read behind a crash. -/
theorem crash_read {d p : ByteArray} {n keep : Int} {torn : Bool} (h : okLog d p n = true) (h0 : 0 ≤ keep) (h1 : keep ≤ (p.size : Int)) :
    allOf (d ++ flipB torn (p.extract 0 keep.toNat)) <+: allOf (d ++ p) ∧ d.size ≤ endOf (d ++ flipB torn (p.extract 0 keep.toNat)) ∧ (torn = false → ¬ keep < (p.size : Int) → allOf (d ++ flipB torn (p.extract 0 keep.toNat)) = allOf (d ++ p)) := by
  obtain ⟨o1, o2, o3, o4⟩ := okLog_parts h
  have k3 : lens (rdAll 40 0 d) = d.size := o3
  have hrange := rdAll_range 40 0 (d ++ p) o2
  obtain ⟨y, hy⟩ : ∃ y, y = flipB torn (p.extract 0 keep.toNat) := ⟨_, rfl⟩
  rw [← hy]
  have ex : ∀ a b : Nat, a ≤ b → b ≤ p.size → p.extract 0 b = p.extract 0 a ++ p.extract a b := fun a b h1 h2 => by
    refine bytes_inj ?_
    rw [bytes_append, bytes_extract, bytes_extract, bytes_extract]
    simp only [List.drop_zero, Nat.sub_zero]
    rw [← List.take_add, show a + (b - a) = b by omega]
  have pf : ∀ a : Nat, a ≤ p.size → p = p.extract 0 a ++ p.extract a p.size := fun a ha => by
    have := ex a p.size ha (Nat.le_refl _)
    rwa [suf_zero] at this
  have hkn : keep.toNat ≤ p.size := by omega
  -- y and p: a common beginning
  have hcut : ∃ u v w : ByteArray, y = u ++ v ∧ p = u ++ w ∧ (10 : Int) ∉ bytesOf v := by
    by_cases ht : torn = true ∧ 0 < (p.extract 0 keep.toNat).size
    · obtain ⟨rfl, hsz⟩ := ht
      have hks : (p.extract 0 keep.toNat).size = keep.toNat := by rw [ByteArray.size_extract]; omega
      obtain ⟨m, hm⟩ : ∃ m, keep.toNat = m + 1 := ⟨keep.toNat - 1, by omega⟩
      have hyb := bytes_flip (p.extract 0 keep.toNat) hsz
      rw [← hy, hks, hm, Nat.add_sub_cancel] at hyb
      have hl1 : (bytesOf (p.extract 0 (m + 1))).length = m + 1 := by rw [bytes_size, ← hm, hks, hm]
      have hb1 : bytesOf (p.extract 0 m) = (bytesOf (p.extract 0 (m + 1))).take m := by
        rw [bytes_extract, bytes_extract]
        simp only [List.drop_zero, Nat.sub_zero, List.take_take]
        congr 1; omega
      refine ⟨p.extract 0 m, strOfNums [255 - bt (p.extract 0 (m + 1)) (m : Int)], p.extract m p.size, ?_, pf m (by omega), ?_⟩
      · refine bytes_inj ?_
        have hbr := Go.Proofs.YtnjjchbhbicmoaaDoor.X.bt_range (p.extract 0 (m + 1)) m
        rw [hyb, bytes_append, hb1, bytesOf_str (fun x hx => by rw [List.mem_singleton.1 hx]; omega)]
        rw [List.set_eq_take_append_cons_drop, if_pos (by omega), List.drop_eq_nil_iff.2 (by omega)]
      · rw [bytesOf_str (fun x hx => by have hbr := Go.Proofs.YtnjjchbhbicmoaaDoor.X.bt_range (p.extract 0 (m + 1)) m; rw [List.mem_singleton.1 hx]; omega)]
        intro hmem
        have h245 := List.mem_singleton.1 hmem
        have hin : bt (p.extract 0 (m + 1)) (m : Int) ∈ bytesOf (d ++ p) := by
          rw [bytes_append]
          refine List.mem_append_right _ ?_
          rw [bt_eq]
          have h3 := getD_mem (l := bytesOf (p.extract 0 (m + 1))) (i := m) (by omega) 0
          rw [bytes_extract] at h3
          rw [bytes_extract]
          exact List.mem_of_mem_take h3
        have := hrange _ hin
        omega
    · rw [flip_no ht] at hy
      exact ⟨p.extract 0 keep.toNat, (⟨#[]⟩ : ByteArray), p.extract keep.toNat p.size, by rw [hy, nil_app], pf _ hkn, by simp [bytesOf]⟩
  have ea := rdAll_app 40 0 d y k3
  have eb := rdAll_app 40 0 d p k3
  refine ⟨?_, ?_, ?_⟩
  · obtain ⟨u, v, w, e1, e2, e3⟩ := hcut
    have hp := rdAll_cut (40 - (rdAll 40 0 d).length) (0 + (rdAll 40 0 d).length) u v w e3
    rw [← e1, ← e2] at hp
    unfold allOf
    rw [ea, eb, List.map_append, List.map_append]
    exact (List.prefix_append_right_inj _).2 (hp.map _)
  · show d.size ≤ lens (rdAll 40 0 (d ++ y))
    rw [ea, lens_app, k3]; omega
  · intro ht hk
    subst ht
    have : y = p := by
      rw [hy, flip_no (by simp), show keep.toNat = p.size by omega, suf_zero]
    rw [this]
theorem allOf_part (s : ByteArray) : allOf (s.extract 0 (endOf s)) = allOf s ∧ endOf (s.extract 0 (endOf s)) = (s.extract 0 (endOf s)).size := by
  have h := rdAll_part 40 0 s
  have hle := endOf_le s
  constructor
  · unfold allOf endOf; rw [h]
  · have e : endOf (s.extract 0 (endOf s)) = endOf s := by unfold endOf; rw [h]
    rw [e, ByteArray.size_extract]; omega
theorem ev_is {α : Type} {o : Option α} {a : α} (h : o = some a) : Ev (fun _ => o) a := by rw [h]; exact ev_eq rfl
theorem drawCrash_ev {l : List Int} (hl : isCodeB l) : ∃ t : ByteArray × ByteArray × Int × Int × Bool, Ev (fun k => spec_DrawCrashLog.f k l) t ∧ t.1.size ≤ 100000 ∧ t.2.1.size ≤ 100000 := by
  unfold spec_DrawCrashLog.f
  obtain ⟨⟨d, p, n, a, s⟩, h, g, hs1, hs2⟩ := anyLog_ev hl
  simp only at g hs1 hs2
  obtain ⟨b, a1, s1, e1, g1, _⟩ := pick_ev hl (s := s) g (by omega) (wrap64 ((p.size : Int) + 3))
  obtain ⟨b2, a2, s2, e2, g2⟩ := one_ev hl (s := s1) g1 (by omega) 2
  refine ⟨(d, p, n, wrap64 (b - 1), b2), Ev.bind h ?_, hs1, hs2⟩
  rw [e1]
  refine ev_some ?_
  rw [e2]
  exact ev_some (ev_eq rfl)
theorem drawRecover_ev {l : List Int} (hl : isCodeB l) : ∃ t : ByteArray, Ev (fun k => spec_DrawRecoverLog.f k l) t := by
  have j0 : ∀ (x : ByteArray) (a s : Int), At 1000 a → ∃ t, Ev (fun k => spec_DrawRecoverLog.j0 k x l a s) t := fun x a s g => by
    obtain ⟨b, a1, s1, e1, g1⟩ := one_ev hl (s := s) g (by omega) 40
    cases hb : b with
    | false => exact ⟨x, Ev.step (fun k => by unfold spec_DrawRecoverLog.j0; rfl) (Ev.bind (ev_is e1) (ev_neg (fun h => Bool.noConfusion (hb.symm.trans h)) (ev_eq rfl)))⟩
    | true =>
      obtain ⟨c, a2, s2, e2, g2, c0, c1⟩ := pick_ev hl (s := s1) g1 (by omega) 2
      have hc := c1 (by omega)
      refine ⟨strOfNums (List.replicate (wrap64 (30000 + c) : Int).toNat 0), Ev.step (fun k => by unfold spec_DrawRecoverLog.j0; rfl) ?_⟩
      have hw : wrap64 (30000 + c) = 30000 + c := w64 (by omega) (by omega)
      refine Ev.bind (ev_is e1) (ev_pos hb (Ev.bind (ev_is e2) ?_))
      simp only [hw]
      exact ev_pos (by omega) (ev_pos (by omega) (ev_eq rfl))
  unfold spec_DrawRecoverLog.f
  obtain ⟨⟨d, p, n, a, s⟩, h, g, hs, hn, hn2⟩ := log12_ev hl
  simp only at g hs hn hn2
  have hz : (d ++ p).size = d.size + p.size := size_append d p
  obtain ⟨b, a1, s1, e1, g1, _⟩ := pick_ev hl (s := s) g (by omega) 4
  have lead : ∀ {F : Nat → Int × Int × Int → Option ByteArray} {t : ByteArray}, Ev (fun k => F k (b, a1, s1)) t → Ev (fun k => if d.size + p.size ≤ 9223372036854775807 then (spec_l1Cur_pick.f l a s 4).bind (F k) else none) t := fun {F t} hF => by
    refine ev_pos (by omega) ?_
    rw [e1]; exact ev_some (f := fun k x => F k x) hF
  by_cases h0 : b = 0
  · obtain ⟨q, a2, s2, e2, g2, z2⟩ := spoilt_ev hl (s := s1) g1 (by omega) (d ++ p) (⟨#[35, 64, 10, 48, 49]⟩ : ByteArray) (by omega) (by decide) (by decide)
    obtain ⟨t, ht⟩ := j0 q a2 s2 (g2.le (by omega))
    refine ⟨t, Ev.bind h (lead (ev_pos h0 ?_))⟩
    rw [e2]; exact ev_some ht
  · by_cases h1 : b = 1
    · obtain ⟨c, a2, s2, e2, g2, c0, c1⟩ := pick_ev hl (s := s1) g1 (by omega) (wrap64 (((d ++ p).size : Int) + 1))
      have hw : wrap64 (((d ++ p).size : Int) + 1) = ((d ++ p).size : Int) + 1 := w64 (by omega) (by omega)
      have hc := c1 (by rw [hw]; omega)
      rw [hw] at hc
      obtain ⟨t, ht⟩ := j0 ((d ++ p).extract 0 c.toNat) a2 s2 (g2.le (by omega))
      refine ⟨t, Ev.bind h (lead (ev_neg h0 (ev_pos h1 ?_)))⟩
      rw [e2]; exact ev_some (ev_pos c0 (ev_pos (by first | omega | (simp only; omega)) ht))
    · by_cases h2 : b = 2
      · obtain ⟨c, a2, s2, e2, g2, c0, c1⟩ := pick_ev hl (s := s1) g1 (by omega) 4
        have hc := c1 (by omega)
        obtain ⟨rc, rr, a3, s3, e3, g3, z1, z2⟩ := logRecord_ev hl (s := s2) g2 (by omega)
        obtain ⟨m, rfl⟩ : ∃ m : Nat, c = m := ⟨c.toNat, by omega⟩
        have hline := l12Line_ev m rc rr (by omega) (by omega) (by omega)
        have hls := line_size (n := (m : Int)) (c := rc) (r := rr) (by omega) (by omega) (by omega) (by omega)
        obtain ⟨t, ht⟩ := j0 ((d ++ p) ++ lineB m rc rr) a3 s3 (g3.le (by omega))
        refine ⟨t, Ev.bind h (lead (ev_neg h0 (ev_neg h1 (ev_pos h2 ?_))))⟩
        rw [e2]
        refine ev_some ?_
        rw [e3]
        exact ev_some (Ev.bind hline (ev_pos (by first | omega | (simp only; omega)) ht))
      · obtain ⟨t, ht⟩ := j0 (d ++ p) a1 s1 (g1.le (by omega))
        exact ⟨t, Ev.bind h (lead (ev_neg h0 (ev_neg h1 (ev_neg h2 ht))))⟩
end Go.Proofs.YtnjjchbhbicmoaaDoor.Pl
