/- Plain: what a log's bytes are read as: the program's reader and the reference's. -/
import Derived.Test.YtnjjchbhbicmoaaDoorX5
import Derived.Test.YtnjjchbhbicmoaaDoorX6
import Derived.Test.YtnjjchbhbicmoaaDoorX7
import Derived.Test.YtnjjchbhbicmoaaDoorX8
import Derived.Test.YtnjjchbhbicmoaaDoorNums
import Derived.Test.YtnjjchbhbicmoaaDoorCuts
set_option linter.unusedVariables false
set_option linter.unusedSimpArgs false
namespace Go.Proofs.YtnjjchbhbicmoaaDoor.Pl
open Go.RowKit Go.Proofs.YtnjjchbhbicmoaaDoorW.PrintWords Go.Proofs.YtnjjchbhbicmoaaDoorW.PrintLast Go.Proofs.YtnjjchbhbicmoaaDoorW.PrintMore Go.Proofs.YtnjjchbhbicmoaaDoor.X

set_option maxHeartbeats 4000000
theorem nl_bytes : bytesOf (⟨#[10]⟩ : ByteArray) = [10] := rfl
/-- A line without its end is the encoding of a record. -/
def IsLine (n : Nat) (s c r : ByteArray) : Prop := recB c r = true ∧ lineB n c r = s ++ (⟨#[10]⟩ : ByteArray)
instance (n : Nat) (s c r : ByteArray) : Decidable (IsLine n s c r) := by unfold IsLine; infer_instance
theorem IsLine.seal {n : Nat} {s c r : ByteArray} (h : IsLine n s c r) : s = sealB (bodyB n c r) := by
  refine bytes_inj ?_
  have := congrArg bytesOf h.2
  unfold lineB at this
  rw [bytes_append, bytes_append] at this
  exact (List.append_cancel_right this).symm
theorem body_bytes (n : Int) (c r : ByteArray) : bytesOf (bodyB n c r) = bytesOf (numI n) ++ 32 :: (bytesOf c ++ 64 :: bytesOf r) := by
  unfold bodyB
  have e1 : bytesOf (⟨#[32]⟩ : ByteArray) = [32] := rfl
  have e2 : bytesOf (⟨#[64]⟩ : ByteArray) = [64] := rfl
  simp only [bytes_append, e1, e2, List.append_assoc, List.cons_append, List.nil_append]
theorem IsLine.text {n : Nat} {s c r : ByteArray} (h : IsLine n s c r) : headB 35 s = bodyB n c r := by
  refine bytes_inj ?_
  rw [headB_bytes, h.seal]
  unfold sealB
  have e1 : bytesOf (⟨#[35]⟩ : ByteArray) = [35] := rfl
  simp only [bytes_append, e1, List.append_assoc, List.singleton_append]
  exact takeTo_at (body_no35 (by omega) h.1)
theorem num_no {n : Nat} {c : Int} (h : c < 48 ∨ 57 < c) : c ∉ bytesOf (numI n) := fun hm => by
  have := numI_digits (n := (n : Int)) (by omega) hm; omega
theorem IsLine.rest {n : Nat} {s c r : ByteArray} (h : IsLine n s c r) : bytesOf (tailB 32 (headB 35 s)) = bytesOf c ++ 64 :: bytesOf r := by
  rw [tailB_bytes, h.text, body_bytes, takeTo_at (num_no (by omega))]
  simp
theorem IsLine.cmd {n : Nat} {s c r t : ByteArray} (h : IsLine n s c r) (ht : bytesOf t = bytesOf c ++ 64 :: bytesOf r) : headB 64 t = c := by
  refine bytes_inj ?_
  rw [headB_bytes, ht]
  exact takeTo_at (fun hm => by have := (recB_parts h.1).2.2.1 _ hm; omega)
theorem IsLine.rep {n : Nat} {s c r t : ByteArray} (h : IsLine n s c r) (ht : bytesOf t = bytesOf c ++ 64 :: bytesOf r) : tailB 64 t = r := by
  refine bytes_inj ?_
  rw [tailB_bytes, ht, takeTo_at (fun hm => by have := (recB_parts h.1).2.2.1 _ hm; omega)]
  simp
/-- The record of a line, the line read as the program reads it. -/
def dec (n : Nat) (s : ByteArray) : Option (ByteArray × ByteArray) :=
  if IsLine n s (headB 64 (tailB 32 (headB 35 s))) (tailB 64 (tailB 32 (headB 35 s))) then some (headB 64 (tailB 32 (headB 35 s)), tailB 64 (tailB 32 (headB 35 s))) else none
theorem IsLine.dec {n : Nat} {s c r : ByteArray} (h : IsLine n s c r) : Pl.dec n s = some (c, r) := by
  have e1 := h.cmd h.rest
  have e2 := h.rep h.rest
  unfold Pl.dec
  rw [e1, e2, if_pos h]
theorem dec_none {n : Nat} {s : ByteArray} (h : ∀ c r, ¬ IsLine n s c r) : dec n s = none := by
  unfold dec; rw [if_neg (h _ _)]
theorem dec_some {n : Nat} {s c r : ByteArray} (h : dec n s = some (c, r)) : IsLine n s c r := by
  unfold dec at h
  split at h
  · rename_i hl
    obtain ⟨rfl, rfl⟩ := Prod.mk.inj (Option.some.inj h)
    exact hl
  · exact absurd h (by simp)
theorem dec_rec {n : Nat} {s c r : ByteArray} (hc : c = headB 64 (tailB 32 (headB 35 s))) (hr : r = tailB 64 (tailB 32 (headB 35 s))) (h : ¬ recB c r = true) : dec n s = none := by
  subst hc hr; unfold dec; rw [if_neg (fun hh => h hh.1)]
theorem dec_line {n : Nat} {s c r : ByteArray} (hc : c = headB 64 (tailB 32 (headB 35 s))) (hr : r = tailB 64 (tailB 32 (headB 35 s))) (h : ¬ lineB n c r = s ++ (⟨#[10]⟩ : ByteArray)) : dec n s = none := by
  subst hc hr; unfold dec; rw [if_neg (fun hh => h hh.2)]
attribute [irreducible] dec
/-- What a decoding says of a line. -/
def Said (o : Option (ByteArray × ByteArray)) (t : ByteArray × ByteArray × Bool) : Prop := (o = none → t.2.2 = false) ∧ ∀ c r, o = some (c, r) → t = (c, r, true)
theorem said_none {n : Nat} {s a b : ByteArray} (h : ∀ c r, ¬ IsLine n s c r) : Said (dec n s) (a, b, false) := by
  rw [dec_none h]; exact ⟨fun _ => rfl, fun c r hh => absurd hh (by simp)⟩
theorem j0_bad (s : ByteArray) (n : Int) (ahead text : ByteArray) : Ev (fun k => spec_l12Decode.j0 k s n ahead text true) ((⟨#[]⟩ : ByteArray), (⟨#[]⟩ : ByteArray), false) :=
  Ev.step (fun k => by unfold spec_l12Decode.j0; rfl) (ev_pos rfl (ev_eq rfl))
theorem j0_short (s : ByteArray) (n : Int) (ahead text rest : ByteArray) (hrest : rest = text.extract ahead.size text.size) (hs : rest.size ≤ 1048576) (ha : ahead.size ≤ text.size) (h : (headB 64 rest).size = rest.size) :
    Ev (fun k => spec_l12Decode.j0 k s n ahead text false) ((⟨#[]⟩ : ByteArray), (⟨#[]⟩ : ByteArray), false) := by
  obtain ⟨M, hM, hM0, hMh, _⟩ := l1Split_head rest 64 hs
  refine Ev.step (fun k => by unfold spec_l12Decode.j0; rfl) (ev_neg (by simp) (ev_pos (by omega) (ev_pos (by omega) ?_)))
  rw [← hrest]
  refine Ev.bind hM (ev_pos (by omega) ?_)
  rw [hMh]
  exact ev_pos (by rw [h]) (ev_eq rfl)
theorem j0_long (s : ByteArray) (n : Nat) (hn : n < 1000000) (ahead text rest c r : ByteArray) (hss : s.size ≤ 1048575) (hrest : rest = text.extract ahead.size text.size) (hs : rest.size ≤ 1048576) (ha : ahead.size ≤ text.size)
    (hc : c = headB 64 rest) (hr : r = tailB 64 rest) (h : ¬ (headB 64 rest).size = rest.size) :
    ∃ v, Ev (fun k => spec_l12Decode.j0 k s n ahead text false) (c, r, v) ∧ (v = true ↔ IsLine n s c r) := by
  obtain ⟨M, hM, hM0, hMh, _⟩ := l1Split_head rest 64 hs
  have hle := headB_le 64 rest
  have hts := tailB_size 64 rest
  have e5 : r = rest.extract (c.size + 1) rest.size := by rw [hr, hc]; unfold tailB; rw [headB_size]
  rw [← hc] at hMh h hle hts
  rw [← hr] at hts
  clear hr hc
  have e4 : wrap64 ((c.size : Int) + 1) = ((c.size + 1 : Nat) : Int) := by rw [w64 (by omega) (by omega)]; omega
  have start : ∀ v, Ev (fun k => (spec_l12Record.f k c r).bind fun t167 => (if t167 = true then ((spec_l12Line.f k n c r).bind fun t168 => (if s.size + 1 ≤ 9223372036854775807 then (some (c, r, (t168.toList == (s ++ (⟨#[10]⟩ : ByteArray)).toList))) else (none))) else (some (c, r, false)))) (c, r, v) → Ev (fun k => spec_l12Decode.j0 k s n ahead text false) (c, r, v) := by
    intro v hv
    refine Ev.step (fun k => by unfold spec_l12Decode.j0; rfl) (ev_neg (by simp) (ev_pos (by omega) (ev_pos (by omega) ?_)))
    rw [← hrest]
    refine Ev.bind hM (ev_pos (by omega) ?_)
    rw [hMh]
    refine ev_neg (by omega) ?_
    rw [e4]
    refine ev_pos (by omega) (ev_pos (by omega) ?_)
    rw [Int.toNat_natCast, ← e5]
    exact hv
  cases hrb : recB c r with
  | false =>
    refine ⟨false, start _ (Ev.bind (l12Record_ev c r (by omega) (by omega)) ?_), ⟨fun h => absurd h (by simp), fun h => ?_⟩⟩
    · rw [hrb]; exact ev_neg (by simp) (ev_eq rfl)
    · have := h.1; rw [hrb] at this; exact absurd this (by simp)
  | true =>
    refine ⟨((lineB n c r).toList == (s ++ (⟨#[10]⟩ : ByteArray)).toList), start _ (Ev.bind (l12Record_ev c r (by omega) (by omega)) ?_), ?_⟩
    · rw [hrb]; exact ev_pos rfl (Ev.bind (l12Line_ev n c r hn (by omega) (by omega)) (ev_pos (by omega) (ev_eq rfl)))
    · rw [beq_iff_eq, toList_inj]
      exact ⟨fun h => ⟨hrb, h⟩, fun h => h.2⟩
/-- The reference's decoding of a line. -/
theorem l12Decode_ev (n : Nat) (hn : n < 1000000) (s : ByteArray) (hs : s.size ≤ 1048575) : ∃ t : ByteArray × ByteArray × Bool, Ev (fun k => spec_l12Decode.f k s n) t ∧ Said (dec n s) t := by
  have hns := numI_size (n := (n : Int)) (by omega) (by omega)
  obtain ⟨L, hL, hL0, hLh, _⟩ := l1Split_head s 35 (by omega)
  have hh := headB_le 35 s
  obtain ⟨text, htext⟩ : ∃ text, text = headB 35 s := ⟨_, rfl⟩
  obtain ⟨ahead, hahead⟩ : ∃ ahead, ahead = numI n ++ (⟨#[32]⟩ : ByteArray) := ⟨_, rfl⟩
  have ha : ahead.size = (numI n).size + 1 := by
    have e1 : (⟨#[32]⟩ : ByteArray).size = 1 := rfl
    rw [hahead, size_append, e1]
  have hab : bytesOf ahead = bytesOf (numI n) ++ [32] := by rw [hahead, bytes_append]; rfl
  have hnl : (bytesOf (numI n)).length = (numI n).size := bytes_size _
  rw [← htext] at hLh hh
  have lead : ∀ t, Ev (fun k => if (text.size : Int) < (ahead.size : Int) then (spec_l12Decode.j0 k s n ahead text true) else (if 0 ≤ (ahead.size : Int) then (if (ahead.size : Int) ≤ (text.size : Int) then (spec_l12Decode.j0 k s n ahead text ((text.extract 0 ahead.size).toList != ahead.toList)) else (none)) else (none))) t → Ev (fun k => spec_l12Decode.f k s n) t := by
    intro t ht
    unfold spec_l12Decode.f
    refine Ev.bind (l1Num_ev n (by omega)) (ev_pos (by omega) (Ev.bind hL (ev_pos (by omega) ?_)))
    rw [hLh, ← hahead]
    exact ht
  have htx : ∀ c r, IsLine n s c r → text = bodyB n c r := fun c r h => htext.trans h.text
  by_cases h1 : (text.size : Int) < (ahead.size : Int)
  · refine ⟨_, lead _ (ev_pos h1 (j0_bad _ _ _ _)), said_none (fun c r h => ?_)⟩
    have := body_size n c r
    rw [← htx c r h] at this
    omega
  · by_cases h2 : text.extract 0 ahead.size = ahead
    · have hb2 : ((text.extract 0 ahead.size).toList != ahead.toList) = false := by rw [h2]; simp
      obtain ⟨rest, hrest⟩ : ∃ rest, rest = text.extract ahead.size text.size := ⟨_, rfl⟩
      have hrs : rest.size ≤ 1048576 := by rw [hrest, ByteArray.size_extract]; omega
      have hline : ∀ c r, IsLine n s c r → bytesOf rest = bytesOf c ++ 64 :: bytesOf r := by
        intro c r h
        rw [hrest, suf_bytes, htx c r h, body_bytes, ha, List.drop_append, List.drop_eq_nil_iff.2 (by omega), hnl]
        simp
      by_cases h3 : (headB 64 rest).size = rest.size
      · refine ⟨_, lead _ (ev_neg h1 (ev_pos (by omega) (ev_pos (by omega) (by rw [hb2]; exact j0_short s n ahead text rest hrest hrs (by omega) h3)))), said_none (fun c r h => ?_)⟩
        have e := hline c r h
        rw [h.cmd e] at h3
        have := congrArg List.length e
        simp only [bytes_size, List.length_append, List.length_cons] at this
        omega
      · obtain ⟨v, hv, hvl⟩ := j0_long s n hn ahead text rest _ _ hs hrest hrs (by omega) rfl rfl h3
        refine ⟨_, lead _ (ev_neg h1 (ev_pos (by omega) (ev_pos (by omega) (by rw [hb2]; exact hv)))), ?_⟩
        have uniq : ∀ c r, IsLine n s c r → c = headB 64 rest ∧ r = tailB 64 rest := fun c r h => ⟨(h.cmd (hline c r h)).symm, (h.rep (hline c r h)).symm⟩
        cases v with
        | true =>
          rw [(hvl.1 rfl).dec]
          exact ⟨fun h => absurd h (by simp), fun c r h => by obtain ⟨rfl, rfl⟩ := Prod.mk.inj (Option.some.inj h); rfl⟩
        | false =>
          refine said_none (fun c r h => ?_)
          obtain ⟨rfl, rfl⟩ := uniq c r h
          exact absurd (hvl.2 h) (by simp)
    · have hb2 : ((text.extract 0 ahead.size).toList != ahead.toList) = true := by
        rw [bne_iff_ne]; exact fun h => h2 (toList_inj.1 h)
      refine ⟨_, lead _ (ev_neg h1 (ev_pos (by omega) (ev_pos (by omega) (by rw [hb2]; exact j0_bad _ _ _ _)))), said_none (fun c r h => h2 ?_)⟩
      refine bytes_inj ?_
      rw [bytes_extract, htx c r h, body_bytes, List.drop_zero, Nat.sub_zero, ha, hab, List.take_append, List.take_of_length_le (by omega), hnl]
      simp
/-! ### readers -/
/-- The records at the beginning of a text, f of them at the most, each with its line's length; the first one's number is n. -/
def rdAll : Nat → Nat → ByteArray → List (S33 × Nat)
  | 0, _, _ => []
  | f + 1, n, t => if (10 : Int) ∈ bytesOf t then match dec n (headB 10 t) with | some e => ((⟨e.1, e.2⟩ : S33), (headB 10 t).size + 1) :: rdAll f (n + 1) (tailB 10 t) | none => [] else []
theorem rdAll_no {f n : Nat} {t : ByteArray} (h : (10 : Int) ∉ bytesOf t) : rdAll f n t = [] := by
  cases f with
  | zero => rfl
  | succ f => unfold rdAll; rw [if_neg h]
theorem rdAll_bad {f n : Nat} {t : ByteArray} (h : (10 : Int) ∈ bytesOf t) (hd : dec n (headB 10 t) = none) : rdAll (f + 1) n t = [] := by
  unfold rdAll; rw [if_pos h, hd]
theorem rdAll_ok {f n : Nat} {t c r : ByteArray} (h : (10 : Int) ∈ bytesOf t) (hd : dec n (headB 10 t) = some (c, r)) : rdAll (f + 1) n t = ((⟨c, r⟩ : S33), (headB 10 t).size + 1) :: rdAll f (n + 1) (tailB 10 t) := by
  rw [rdAll, if_pos h, hd]
attribute [irreducible] rdAll
theorem rdAll_zero {n : Nat} {t : ByteArray} : rdAll 0 n t = [] := by unfold rdAll; rfl
def lens (xs : List (S33 × Nat)) : Nat := (xs.map (·.2)).sum
theorem lens_nil : lens [] = 0 := rfl
theorem lens_cons (x : S33 × Nat) (xs : List (S33 × Nat)) : lens (x :: xs) = x.2 + lens xs := by simp [lens]
theorem mem10_lt {t : ByteArray} (h : (10 : Int) ∈ bytesOf t) : (headB 10 t).size + 1 ≤ t.size := by
  have := takeTo_lt h
  rw [headB_size, ← bytes_size t]; omega
/-- By cases on what is read first. -/
theorem rdAll_cases (f n : Nat) (t : ByteArray) : (rdAll (f + 1) n t = [] ∧ ((10 : Int) ∉ bytesOf t ∨ dec n (headB 10 t) = none)) ∨
    ∃ c r, (10 : Int) ∈ bytesOf t ∧ dec n (headB 10 t) = some (c, r) ∧ rdAll (f + 1) n t = ((⟨c, r⟩ : S33), (headB 10 t).size + 1) :: rdAll f (n + 1) (tailB 10 t) := by
  by_cases h : (10 : Int) ∈ bytesOf t
  · cases hd : dec n (headB 10 t) with
    | none => exact .inl ⟨rdAll_bad h hd, .inr rfl⟩
    | some e => exact .inr ⟨e.1, e.2, h, rfl, rdAll_ok h hd⟩
  · exact .inl ⟨rdAll_no h, .inl h⟩
theorem lens_le (f n : Nat) (t : ByteArray) : lens (rdAll f n t) ≤ t.size := by
  induction f generalizing n t with
  | zero => rw [rdAll_zero]; exact Nat.zero_le _
  | succ f ih =>
    rcases rdAll_cases f n t with ⟨e, _⟩ | ⟨c, r, h, _, e⟩
    · rw [e]; exact Nat.zero_le _
    · have h1 := ih (n + 1) (tailB 10 t)
      have h2 := mem10_lt h
      rw [tailB_size] at h1
      rw [e, lens_cons]
      simp only
      omega
theorem rdAll_length (f n : Nat) (t : ByteArray) : (rdAll f n t).length ≤ f := by
  induction f generalizing n t with
  | zero => rw [rdAll_zero]; exact Nat.le_refl _
  | succ f ih =>
    rcases rdAll_cases f n t with ⟨e, _⟩ | ⟨c, r, h, _, e⟩
    · rw [e]; exact Nat.zero_le _
    · rw [e, List.length_cons]; exact Nat.succ_le_succ (ih _ _)
theorem no_ten {s : ByteArray} {a : Nat} (h : s.size ≤ a) : (10 : Int) ∉ bytesOf (s.extract a s.size) := by
  rw [suf_bytes, List.drop_eq_nil_iff.2 (by rw [bytes_size]; exact h)]; simp
theorem two_wraps {a m : Nat} (h : a + m ≤ 1048576) : wrap64 (wrap64 ((a : Int) + (m : Int)) + 1) = ((a + (m + 1) : Nat) : Int) ∧ wrap64 ((a : Int) + wrap64 ((m : Int) + 1)) = ((a + (m + 1) : Nat) : Int) := by
  rw [w64 (x := (a : Int) + (m : Int)) (by omega) (by omega), w64 (x := (m : Int) + 1) (by omega) (by omega), w64 (x := (a : Int) + (m : Int) + 1) (by omega) (by omega), w64 (x := (a : Int) + ((m : Int) + 1)) (by omega) (by omega)]
  omega
theorem dec40 {m : Nat} : (m < 40 → (decide ((m : Int) < 40)) = true) ∧ (¬ m < 40 → (decide ((m : Int) < 40)) = false) :=
  ⟨fun h => decide_eq_true (by omega), fun h => decide_eq_false (by omega)⟩
theorem open_stop (s : ByteArray) (acc : List S33) (a : Nat) : Ev (fun k => spec_l12Open.j1 k s acc a false) (acc, (a : Int)) :=
  Ev.step (fun k => by unfold spec_l12Open.j1; rfl) (ev_neg (by simp) (ev_eq rfl))
/-- A round of the reference's reader. -/
theorem open_round (s : ByteArray) (hs : s.size ≤ 1048575) (acc : List S33) (a : Nat) (ha : a < s.size) (hl : acc.length < 40) (rest : ByteArray) (hrest : rest = s.extract a s.size) :
    (∀ c r v, (10 : Int) ∈ bytesOf rest → dec acc.length (headB 10 rest) = some (c, r) → Ev (fun k => spec_l12Open.l0 k s (acc ++ [(⟨c, r⟩ : S33)]) ((a + ((headB 10 rest).size + 1) : Nat) : Int)) v → Ev (fun k => spec_l12Open.l0 k s acc a) v) ∧
    ((10 : Int) ∉ bytesOf rest ∨ dec acc.length (headB 10 rest) = none → Ev (fun k => spec_l12Open.l0 k s acc a) (acc, (a : Int))) := by
  have hrz : rest.size = s.size - a := by rw [hrest, ByteArray.size_extract]; omega
  obtain ⟨L, hL, hL0, hLh, hL2⟩ := l1Split_head rest 10 (by omega)
  have hh := headB_le 10 rest
  have hmem : (10 : Int) ∈ bytesOf rest → (headB 10 rest).size + 1 ≤ rest.size := mem10_lt
  obtain ⟨line, hline⟩ : ∃ line, line = headB 10 rest := ⟨_, rfl⟩
  rw [← hline] at hLh hh hmem ⊢
  obtain ⟨t, ht, hm1, hm2⟩ := l12Decode_ev acc.length (by omega) line (by omega)
  have lead : ∀ v, Ev (fun k => if (L.length : Int) < 2 then (some (acc, (a : Int))) else (if t.2.2 = true then (if acc.length < 4398046511104 then (spec_l12Open.l0 k s (acc ++ [(⟨t.1, t.2.1⟩ : S33)]) (wrap64 ((wrap64 ((a : Int) + (line.size : Int))) + 1))) else (none)) else (some (acc, (a : Int))))) v → Ev (fun k => spec_l12Open.l0 k s acc a) v := by
    intro v hv
    refine Ev.step (fun k => by unfold spec_l12Open.l0; rfl) (ev_pos (by omega) ?_)
    rw [dec40.1 hl]
    refine Ev.step (fun k => by unfold spec_l12Open.j1; rfl) (ev_pos rfl (ev_pos (by omega) (ev_pos (by omega) ?_)))
    rw [Int.toNat_natCast, ← hrest]
    refine Ev.bind hL (ev_pos (by omega) ?_)
    rw [hLh]
    exact Ev.bind ht hv
  constructor
  · intro c r v h10 hd hv
    have h1 := hmem h10
    have h2 := hL2.2 h10
    have h3 := hm2 c r hd
    have h4 := (two_wraps (a := a) (m := line.size) (by omega)).1
    refine lead v (ev_neg (by omega) ?_)
    rw [h3, h4]
    exact ev_pos rfl (ev_pos (by omega) hv)
  · rintro (h10 | hd)
    · have h2 : ¬ 2 ≤ L.length := fun h => h10 (hL2.1 h)
      exact lead _ (ev_pos (by omega) (ev_eq rfl))
    · have h3 := hm1 hd
      refine lead _ (ev_ite (fun _ => ev_eq rfl) (fun _ => ?_))
      rw [h3]
      exact ev_neg (by simp) (ev_eq rfl)
theorem l12Open_ev (s : ByteArray) (hs : s.size ≤ 1048575) : Ev (fun k => spec_l12Open.f k s) ((rdAll 40 0 s).map (·.1), (lens (rdAll 40 0 s) : Int)) := by
  have key : ∀ f (acc : List S33) (a : Nat), acc.length + f = 40 → a ≤ s.size → Ev (fun k => spec_l12Open.l0 k s acc a) (acc ++ (rdAll f acc.length (s.extract a s.size)).map (·.1), ((a + lens (rdAll f acc.length (s.extract a s.size)) : Nat) : Int)) := by
    intro f
    induction f with
    | zero =>
      intro acc a hl ha
      rw [rdAll_zero]
      have stop := open_stop s acc a
      simp only [List.map_nil, List.append_nil, lens_nil, Nat.add_zero]
      refine Ev.step (fun k => by unfold spec_l12Open.l0; rfl) (ev_ite (fun _ => ?_) (fun _ => stop))
      rw [dec40.2 (by omega)]
      exact stop
    | succ f ih =>
      intro acc a hl ha
      by_cases hlt : a < s.size
      · obtain ⟨rest, hrest⟩ : ∃ rest, rest = s.extract a s.size := ⟨_, rfl⟩
        obtain ⟨h1, h2⟩ := open_round s hs acc a hlt (by omega) rest hrest
        have htl := tail_suf 10 s a
        have hrz : rest.size = s.size - a := by rw [hrest, ByteArray.size_extract]; omega
        rw [← hrest] at htl ⊢
        rcases rdAll_cases f acc.length rest with ⟨e, hno⟩ | ⟨c, r, h10, hd, e⟩
        · rw [e]
          simpa [lens_nil] using h2 hno
        · have hlt10 := mem10_lt h10
          rw [e]
          refine h1 c r _ h10 hd ?_
          have := ih (acc ++ [(⟨c, r⟩ : S33)]) (a + ((headB 10 rest).size + 1)) (by rw [List.length_append, List.length_singleton]; omega) (by omega)
          rw [← htl, List.length_append, List.length_singleton, List.append_assoc, List.singleton_append, Nat.add_assoc] at this
          rw [List.map_cons, lens_cons]
          exact this
      · have e := rdAll_no (f := f + 1) (n := acc.length) (no_ten (s := s) (a := a) (by omega))
        rw [e]
        simp only [List.map_nil, List.append_nil, lens_nil, Nat.add_zero]
        exact Ev.step (fun k => by unfold spec_l12Open.l0; rfl) (ev_neg (by omega) (open_stop s acc a))
  have := key 40 [] 0 rfl (Nat.zero_le _)
  rw [suf_zero] at this
  simpa [spec_l12Open.f] using this
/-- The places behind the records of a text that begins at a. -/
def endsOf (a : Nat) : List (S33 × Nat) → List Int
  | [] => []
  | x :: xs => ((a + x.2 : Nat) : Int) :: endsOf (a + x.2) xs
theorem room_of {s a rest line body tl c r n e : Nat} (h1 : s ≤ 1048575) (h2 : rest = s - a) (h3 : line ≤ rest) (h4 : body ≤ line) (h5 : tl ≤ body) (h6 : c ≤ tl) (h7 : r ≤ tl) (hn : n < 40) (he : e = n + 1) :
    c ≤ 1048576 ∧ r ≤ 1048576 ∧ line + 1 ≤ 9223372036854775807 ∧ n < 4398046511104 ∧ e < 17592186044416 ∧ 0 ≤ (n : Int) ∧ (n : Int) ≤ 39 := by omega
/-- A round of the program's reader. -/
theorem read_round (s : ByteArray) (hs : s.size ≤ 1048575) (acc : List S33) (ends : List Int) (a : Nat) (ha : a ≤ s.size) (hl : acc.length < 40) (he : ends.length = acc.length + 1) (rest : ByteArray) (hrest : rest = s.extract a s.size) :
    (∀ c r v, (10 : Int) ∈ bytesOf rest → dec acc.length (headB 10 rest) = some (c, r) → Ev (fun k => impl_readRecords.l0 k s (acc ++ [(⟨c, r⟩ : S33)]) (ends ++ [((a + ((headB 10 rest).size + 1) : Nat) : Int)]) ((a + ((headB 10 rest).size + 1) : Nat) : Int)) v → Ev (fun k => impl_readRecords.l0 k s acc ends a) v) ∧
    ((10 : Int) ∉ bytesOf rest ∨ dec acc.length (headB 10 rest) = none → Ev (fun k => impl_readRecords.l0 k s acc ends a) (acc, ends)) := by
  have hrz : rest.size = s.size - a := by rw [hrest, ByteArray.size_extract]; omega
  have hh := headB_le 10 rest
  have hmem : (10 : Int) ∈ bytesOf rest → (headB 10 rest).size + 1 ≤ rest.size := mem10_lt
  have c1 : strings_Cut.f rest (⟨#[10]⟩ : ByteArray) = some (headB 10 rest, tailB 10 rest, decide ((10 : Int) ∈ bytesOf rest)) := Cut_eq rest 10 (by omega)
  obtain ⟨line, hline⟩ : ∃ line, line = headB 10 rest := ⟨_, rfl⟩
  rw [← hline] at hh hmem c1 ⊢
  obtain ⟨body, hbody⟩ : ∃ body, body = headB 35 line := ⟨_, rfl⟩
  obtain ⟨tl, htl⟩ : ∃ tl, tl = tailB 32 body := ⟨_, rfl⟩
  obtain ⟨c, hc⟩ : ∃ c, c = headB 64 tl := ⟨_, rfl⟩
  obtain ⟨r, hr⟩ : ∃ r, r = tailB 64 tl := ⟨_, rfl⟩
  have z1 : body.size ≤ line.size := by rw [hbody]; exact headB_le 35 line
  have z2 : tl.size ≤ body.size := by rw [htl, tailB_size]; omega
  have z3 : c.size ≤ tl.size := by rw [hc]; exact headB_le 64 tl
  have z4 : r.size ≤ tl.size := by rw [hr, tailB_size]; omega
  have c2 : strings_Cut.f line (⟨#[35]⟩ : ByteArray) = some (body, tailB 35 line, decide ((35 : Int) ∈ bytesOf line)) := by rw [hbody]; exact Cut_eq line 35 (by omega)
  have c3 : strings_Cut.f body (⟨#[32]⟩ : ByteArray) = some (headB 32 body, tl, decide ((32 : Int) ∈ bytesOf body)) := by rw [htl]; exact Cut_eq body 32 (by omega)
  have c4 : strings_Cut.f tl (⟨#[64]⟩ : ByteArray) = some (c, r, decide ((64 : Int) ∈ bytesOf tl)) := by rw [hc, hr]; exact Cut_eq tl 64 (by omega)
  have hc' : c = headB 64 (tailB 32 (headB 35 line)) := by rw [hc, htl, hbody]
  have hr' : r = tailB 64 (tailB 32 (headB 35 line)) := by rw [hr, htl, hbody]
  have lead : ∀ v, Ev (fun k => if (decide ((10 : Int) ∈ bytesOf rest)) = true then ((impl_EncodeRecord.f k (acc.length : Int) c r).bind fun bt208 => (if bt208.2 = true then (if line.size + 1 ≤ 9223372036854775807 then (if bt208.1.toList = (line ++ (⟨#[10]⟩ : ByteArray)).toList then (if acc.length < 4398046511104 then (if ends.length < 17592186044416 then (impl_readRecords.l0 k s (acc ++ [(⟨c, r⟩ : S33)]) (ends ++ [wrap64 ((a : Int) + (wrap64 ((line.size : Int) + 1)))]) (wrap64 ((a : Int) + (wrap64 ((line.size : Int) + 1))))) else (none)) else (none)) else (some (acc, ends))) else (none)) else (some (acc, ends)))) else (some (acc, ends))) v → Ev (fun k => impl_readRecords.l0 k s acc ends a) v := by
    intro v hv
    refine Ev.step (fun k => by unfold impl_readRecords.l0; rfl) (ev_pos (by omega) (ev_pos (by omega) (ev_pos (by omega) ?_)))
    rw [Int.toNat_natCast, ← hrest, c1]
    refine ev_some ?_
    refine Ev.congr (fun k => ?_) hv
    simp only [c2, c3, c4, Option.bind_some]
  obtain ⟨q1, q2, q3, q4, q5, q6, q7⟩ := room_of hs hrz hh z1 z2 z3 z4 hl he
  clear hc hr hbody htl c1 c2 c3 c4 z1 z2 z3 z4
  constructor
  · intro c0 r0 v h10 hd hv
    have hl1 := dec_some hd
    have hu := hl1.dec
    have hx : c0 = c ∧ r0 = r := by
      have e1 := hl1.cmd hl1.rest
      have e2 := hl1.rep hl1.rest
      exact ⟨by rw [hc', e1], by rw [hr', e2]⟩
    obtain ⟨rfl, rfl⟩ := hx
    have h1 := hmem h10
    have h4 := (two_wraps (a := a) (m := line.size) (by omega)).2
    refine lead v ?_
    rw [decide_eq_true h10]
    refine ev_pos rfl (Ev.bind (impl_EncodeRecord_ev (acc.length : Int) c0 r0 q1 q2) ?_)
    rw [encB_ok q6 q7 hl1.1]
    refine ev_pos rfl (ev_pos q3 (ev_pos (congrArg ByteArray.toList hl1.2) (ev_pos q4 (ev_pos q5 ?_))))
    rw [h4]
    exact hv
  · intro hno
    refine lead _ ?_
    by_cases h10 : (10 : Int) ∈ bytesOf rest
    · have hd := hno.resolve_left (fun h => h h10)
      rw [decide_eq_true h10]
      refine ev_pos rfl (Ev.bind (impl_EncodeRecord_ev (acc.length : Int) c r q1 q2) ?_)
      by_cases hrb : recB c r = true
      · rw [encB_ok q6 q7 hrb]
        refine ev_pos rfl (ev_pos q3 (ev_neg (fun h => ?_) (ev_eq rfl)))
        have hl1 : IsLine acc.length line c r := ⟨hrb, toList_inj.1 h⟩
        rw [hl1.dec] at hd
        exact absurd hd (by simp)
      · rw [encB_no (fun h => hrb h.2)]
        exact ev_neg (by simp) (ev_eq rfl)
    · rw [decide_eq_false h10]
      exact ev_neg (by simp) (ev_eq rfl)
theorem readRecords_ev (s : ByteArray) (hs : s.size ≤ 1048575) : Ev (fun k => impl_readRecords.f k s) ((rdAll 40 0 s).map (·.1), 0 :: endsOf 0 (rdAll 40 0 s)) := by
  have key : ∀ f (acc : List S33) (ends : List Int) (a : Nat), acc.length + f = 40 → ends.length = acc.length + 1 → a ≤ s.size → Ev (fun k => impl_readRecords.l0 k s acc ends a) (acc ++ (rdAll f acc.length (s.extract a s.size)).map (·.1), ends ++ endsOf a (rdAll f acc.length (s.extract a s.size))) := by
    intro f
    induction f with
    | zero =>
      intro acc ends a hl he ha
      rw [rdAll_zero]
      simp only [List.map_nil, List.append_nil, endsOf]
      exact Ev.step (fun k => by unfold impl_readRecords.l0; rfl) (ev_neg (by omega) (ev_eq rfl))
    | succ f ih =>
      intro acc ends a hl he ha
      obtain ⟨rest, hrest⟩ : ∃ rest, rest = s.extract a s.size := ⟨_, rfl⟩
      obtain ⟨h1, h2⟩ := read_round s hs acc ends a ha (by omega) he rest hrest
      have htl := tail_suf 10 s a
      have hrz : rest.size = s.size - a := by rw [hrest, ByteArray.size_extract]; omega
      rw [← hrest] at htl ⊢
      rcases rdAll_cases f acc.length rest with ⟨e, hno⟩ | ⟨c, r, h10, hd, e⟩
      · rw [e]
        simp only [List.map_nil, List.append_nil, endsOf]
        exact h2 hno
      · have hlt10 := mem10_lt h10
        rw [e]
        refine h1 c r _ h10 hd ?_
        have := ih (acc ++ [(⟨c, r⟩ : S33)]) (ends ++ [((a + ((headB 10 rest).size + 1) : Nat) : Int)]) (a + ((headB 10 rest).size + 1)) (by rw [List.length_append, List.length_singleton]; omega) (by rw [List.length_append, List.length_append, List.length_singleton, List.length_singleton]; omega) (by omega)
        rw [← htl, List.length_append, List.length_singleton, List.append_assoc, List.singleton_append, List.append_assoc, List.singleton_append] at this
        rw [List.map_cons, endsOf]
        exact this
  have := key 40 [] [0] 0 rfl rfl (Nat.zero_le _)
  rw [suf_zero] at this
  simpa [impl_readRecords.f] using this
theorem ends_last (a : Nat) (xs : List (S33 × Nat)) : rd ((a : Int) :: endsOf a xs) (xs.length : Int) = ((a + lens xs : Nat) : Int) := by
  induction xs generalizing a with
  | nil =>
    have : rd ((a : Int) :: endsOf a []) (([] : List (S33 × Nat)).length : Int) = a := rfl
    rw [this]; simp [lens]
  | cons x xs ih =>
    have := ih (a + x.2)
    rw [rd_nat] at this ⊢
    rw [endsOf, List.length_cons, List.getD_cons_succ, this, lens_cons, Nat.add_assoc]
theorem ends_length (a : Nat) (xs : List (S33 × Nat)) : (endsOf a xs).length = xs.length := by
  induction xs generalizing a with
  | nil => rfl
  | cons x xs ih => rw [endsOf, List.length_cons, List.length_cons, ih]
theorem ends_far (b : Nat) (xs : List (S33 × Nat)) (y : Int) (hy : y ∈ endsOf b xs) : (b : Int) ≤ y := by
  induction xs generalizing b with
  | nil => simp [endsOf] at hy
  | cons x xs ih =>
    rw [endsOf, List.mem_cons] at hy
    rcases hy with hy | hy
    · omega
    · have := ih (b + x.2) hy; omega
/-- A place behind a record: as far as the text ahead of it alone is read. -/
theorem ends_mem (f n a : Nat) (d p : ByteArray) : ((a + d.size : Nat) : Int) ∈ ((a : Int) :: endsOf a (rdAll f n (d ++ p))) ↔ lens (rdAll f n d) = d.size := by
  induction f generalizing n a d with
  | zero =>
    rw [rdAll_zero, rdAll_zero, endsOf, List.mem_singleton, lens_nil]
    omega
  | succ f ih =>
    by_cases hd0 : d.size = 0
    · have hl := lens_le (f + 1) n d
      rw [hd0, Nat.add_zero]
      exact ⟨fun _ => by omega, fun _ => List.mem_cons_self⟩
    · have e0 : ¬ (((a + d.size : Nat) : Int) = (a : Int)) := by omega
      rw [List.mem_cons, or_iff_right e0]
      by_cases h : (10 : Int) ∈ bytesOf d
      · have h' : (10 : Int) ∈ bytesOf (d ++ p) := by rw [bytes_append]; exact List.mem_append_left _ h
        have eh : headB 10 (d ++ p) = headB 10 d := bytes_inj (by rw [headB_bytes, headB_bytes, bytes_append, takeTo_append h])
        have hlt := mem10_lt h
        have et : tailB 10 (d ++ p) = tailB 10 d ++ p := bytes_inj (by
          rw [tailB_bytes, bytes_append, bytes_append, tailB_bytes, takeTo_append h, List.drop_append, show (takeTo 10 (bytesOf d)).length + 1 - (bytesOf d).length = 0 by have := takeTo_lt h; omega]; simp)
        cases hdc : dec n (headB 10 d) with
        | none =>
          rw [rdAll_bad h hdc, rdAll_bad h' (by rw [eh]; exact hdc), endsOf, lens_nil]
          exact ⟨fun hm => absurd hm (by simp), fun hm => absurd hm.symm hd0⟩
        | some e =>
          have := ih (n + 1) (a + ((headB 10 d).size + 1)) (tailB 10 d)
          rw [tailB_size, show a + ((headB 10 d).size + 1) + (d.size - ((headB 10 d).size + 1)) = a + d.size by omega] at this
          rw [rdAll_ok (c := e.1) (r := e.2) h hdc, rdAll_ok (c := e.1) (r := e.2) h' (by rw [eh]; exact hdc), eh, et, endsOf, lens_cons, this]
          simp only
          omega
      · rw [rdAll_no h, lens_nil]
        refine ⟨fun hm => ?_, fun hm => absurd hm.symm hd0⟩
        exfalso
        rcases rdAll_cases f n (d ++ p) with ⟨e, _⟩ | ⟨c, r, h10, hdc, e⟩
        · rw [e, endsOf] at hm; simp at hm
        · rw [e, endsOf, List.mem_cons] at hm
          have h3 : d.size ≤ (headB 10 (d ++ p)).size := by
            rw [headB_size, bytes_append, ← bytes_size d]; exact takeTo_far h
          simp only at hm
          rcases hm with hm | hm
          · omega
          · have := ends_far _ _ _ hm; omega
end Go.Proofs.YtnjjchbhbicmoaaDoor.Pl
