/- Plain: a log with a line more, and a log whose records are all durable. -/
import Derived.Test.YtnjjchbhbicmoaaDoorX6
import Derived.Test.YtnjjchbhbicmoaaDoorX8
import Derived.Test.YtnjjchbhbicmoaaDoorX11
import Derived.Test.YtnjjchbhbicmoaaDoorX13
import Derived.Test.YtnjjchbhbicmoaaDoorX18
import Derived.Test.YtnjjchbhbicmoaaDoorLogLaws
set_option linter.unusedVariables false
set_option linter.unusedSimpArgs false
namespace Go.Proofs.YtnjjchbhbicmoaaDoor.Pl
open Go.RowKit Go.Proofs.YtnjjchbhbicmoaaDoorW.PrintWords Go.Proofs.YtnjjchbhbicmoaaDoorW.PrintLast Go.Proofs.YtnjjchbhbicmoaaDoorW.PrintMore Go.Proofs.YtnjjchbhbicmoaaDoor.X

theorem seal_range {n : Nat} {c r : ByteArray} (h : recB c r = true) : ∀ y ∈ bytesOf (sealB (bodyB n c r)), 32 ≤ y ∧ y ≤ 126 := by
  intro y hy
  obtain ⟨_, _, hc, hr, _⟩ := recB_parts h
  unfold sealB at hy
  rw [bytes_append, bytes_append, body_bytes] at hy
  have e1 : bytesOf (⟨#[35]⟩ : ByteArray) = [35] := rfl
  rw [e1] at hy
  have dg : ∀ m : Int, 0 ≤ m → ∀ z ∈ bytesOf (numI m), 32 ≤ z ∧ z ≤ 126 := fun m hm z hz => by have := numI_digits hm hz; omega
  simp only [List.mem_append, List.mem_cons, List.not_mem_nil, or_false] at hy
  rcases hy with ((h1 | h1 | h1 | h1 | h1) | h1) | h1
  · exact dg _ (by omega) y h1
  · omega
  · have := hc y h1; omega
  · omega
  · have := hr y h1; omega
  · omega
  · exact dg _ (sumB_range _).1 y h1
theorem seal_no10 {n : Nat} {c r : ByteArray} (h : recB c r = true) : (10 : Int) ∉ bytesOf (sealB (bodyB n c r)) := fun hm => by have := seal_range h _ hm; omega
theorem line_bytes (n : Int) (c r : ByteArray) : bytesOf (lineB n c r) = bytesOf (sealB (bodyB n c r)) ++ [10] := by unfold lineB; rw [bytes_append]; rfl
theorem line_head {n : Nat} {c r : ByteArray} (h : recB c r = true) : headB 10 (lineB n c r) = sealB (bodyB n c r) := by
  refine bytes_inj ?_
  rw [headB_bytes, line_bytes]
  exact takeTo_at (seal_no10 h)
theorem line_tail {n : Nat} {c r : ByteArray} (h : recB c r = true) : bytesOf (tailB 10 (lineB n c r)) = [] := by
  rw [tailB_bytes, ← headB_bytes, line_head h, line_bytes, List.drop_eq_nil_iff]
  simp
theorem nil_of_size {s : ByteArray} (h : s.size = 0) : bytesOf s = [] := List.eq_nil_of_length_eq_zero (by rw [bytes_size]; exact h)
theorem rdAll_more (f : Nat) : ∀ (n : Nat) (s c r : ByteArray), lens (rdAll f n s) = s.size → (rdAll f n s).length < f → recB c r = true →
    rdAll f n (s ++ lineB ((n + (rdAll f n s).length : Nat) : Int) c r) = rdAll f n s ++ [((⟨c, r⟩ : S33), (lineB ((n + (rdAll f n s).length : Nat) : Int) c r).size)] := by
  induction f with
  | zero => intro n s c r _ h; exact absurd h (Nat.not_lt_zero _)
  | succ f ih =>
    intro n s c r hl hf hr
    rcases rdAll_cases f n s with ⟨e, _⟩ | ⟨c', r', h10, hd, e⟩
    · rw [e] at hl ⊢
      have hs0 : bytesOf s = [] := nil_of_size (by rw [← hl]; rfl)
      have e1 : s ++ lineB ((n + ([] : List (S33 × Nat)).length : Nat) : Int) c r = lineB (n : Int) c r := bytes_inj (by rw [bytes_append, hs0]; rfl)
      have e2 : (lineB ((n + ([] : List (S33 × Nat)).length : Nat) : Int) c r) = lineB (n : Int) c r := rfl
      rw [e1, e2, rdAll_ok (c := c) (r := r) (by rw [line_bytes]; simp) (by rw [line_head hr]; exact IsLine.dec ⟨hr, rfl⟩), line_head hr, rdAll_no (by rw [line_tail hr]; simp)]
      have e3 : (lineB (n : Int) c r).size = (sealB (bodyB n c r)).size + 1 := by unfold lineB; rw [size_append]; rfl
      rw [e3]; rfl
    · rw [e] at hl hf ⊢
      rw [lens_cons] at hl
      rw [List.length_cons] at hf
      have h1 := tailB_size 10 s
      have h2 := mem10_lt h10
      have key := ih (n + 1) (tailB 10 s) c r (by simp only at hl; omega) (by omega) hr
      have en : n + 1 + (rdAll f (n + 1) (tailB 10 s)).length = n + ((((⟨c', r'⟩ : S33), (headB 10 s).size + 1)) :: rdAll f (n + 1) (tailB 10 s)).length := by rw [List.length_cons]; omega
      rw [en] at key
      generalize lineB ((n + ((((⟨c', r'⟩ : S33), (headB 10 s).size + 1)) :: rdAll f (n + 1) (tailB 10 s)).length : Nat) : Int) c r = ln at key ⊢
      have eh : headB 10 (s ++ ln) = headB 10 s := bytes_inj (by rw [headB_bytes, headB_bytes, bytes_append, takeTo_append h10])
      have et : tailB 10 (s ++ ln) = tailB 10 s ++ ln := by
        refine bytes_inj ?_
        rw [tailB_bytes, bytes_append, bytes_append, tailB_bytes, takeTo_append h10, List.drop_append_of_le_length]
        have := takeTo_lt h10; omega
      rw [rdAll_ok (c := c') (r := r') (by rw [bytes_append]; exact List.mem_append_left _ h10) (by rw [eh]; exact hd), eh, et, key]
      rfl
theorem okLog_parts {d p : ByteArray} {n : Int} (h : okLog d p n = true) : d.size + p.size ≤ 30000 ∧ endOf (d ++ p) = (d ++ p).size ∧ endOf d = d.size ∧ ((allOf (d ++ p)).length : Int) = n := by
  unfold okLog at h
  simp only [Bool.and_eq_true, decide_eq_true_eq] at h
  rw [size_append]
  exact ⟨h.1, h.2.1, h.2.2.1, h.2.2.2⟩
theorem app_assoc (a b c : ByteArray) : a ++ (b ++ c) = (a ++ b) ++ c := bytes_inj (by simp only [bytes_append, List.append_assoc])
/-- Behind a record more. -/
theorem all_more {d p c r : ByteArray} {n : Int} (h : okLog d p n = true) (hn : n ≠ 40) (hr : recB c r = true) : allOf (d ++ (p ++ lineB n c r)) = allOf (d ++ p) ++ [(⟨c, r⟩ : S33)] ∧ endOf (d ++ (p ++ lineB n c r)) = (d ++ (p ++ lineB n c r)).size := by
  obtain ⟨h1, h2, h3, h4⟩ := okLog_parts h
  have hle := allOf_length (d ++ p)
  have hlen : (rdAll 40 0 (d ++ p)).length = (allOf (d ++ p)).length := by unfold allOf; rw [List.length_map]
  have key := rdAll_more 40 0 (d ++ p) c r h2 (by omega) hr
  have en : ((0 + (rdAll 40 0 (d ++ p)).length : Nat) : Int) = n := by omega
  rw [en] at key
  rw [app_assoc]
  constructor
  · unfold allOf; rw [key, List.map_append]; rfl
  · have e0 : endOf ((d ++ p) ++ lineB n c r) = lens (rdAll 40 0 ((d ++ p) ++ lineB n c r)) := rfl
    have e1 : endOf (d ++ p) = lens (rdAll 40 0 (d ++ p)) := rfl
    rw [e0, key, size_append, ← h2, e1]
    simp [lens]
theorem line_726 {n : Nat} {c r : ByteArray} (hn : n ≤ 1000) (h : recB c r = true) : (lineB (n : Int) c r).size ≤ 726 := by
  obtain ⟨r1, r2, _⟩ := recB_parts h
  have a1 := body_size (n : Int) c r
  have a2 := sum_size (bodyB (n : Int) c r)
  have a3 := seal_size (bodyB (n : Int) c r)
  have a4 := numI_size (n := (n : Int)) (by omega) (by omega)
  have a5 : (lineB (n : Int) c r).size = (sealB (bodyB (n : Int) c r)).size + 1 := by unfold lineB; rw [size_append]; rfl
  omega
theorem lens_room (f : Nat) : ∀ (n : Nat) (s : ByteArray), n + f ≤ 1000 → lens (rdAll f n s) ≤ 726 * (rdAll f n s).length := by
  induction f with
  | zero => intro n s _; rw [rdAll_zero]; exact Nat.zero_le _
  | succ f ih =>
    intro n s hn
    rcases rdAll_cases f n s with ⟨e, _⟩ | ⟨c, r, h10, hd, e⟩
    · rw [e]; exact Nat.zero_le _
    · rw [e, lens_cons, List.length_cons]
      have h1 := ih (n + 1) (tailB 10 s) (by omega)
      have hl := dec_some hd
      have h2 := line_726 (n := n) (by omega) hl.1
      rw [hl.2, size_append] at h2
      have e1 : (⟨#[10]⟩ : ByteArray).size = 1 := rfl
      simp only
      omega
theorem line_size40 {d p c r : ByteArray} {n : Int} (h : okLog d p n = true) (hn : n ≠ 40) (hr : recB c r = true) : (d ++ (p ++ lineB n c r)).size ≤ 30000 := by
  obtain ⟨h1, h2, h3, h4⟩ := okLog_parts h
  have hle := allOf_length (d ++ p)
  have hlen : (rdAll 40 0 (d ++ p)).length = (allOf (d ++ p)).length := by unfold allOf; rw [List.length_map]
  have k1 := lens_room 40 0 (d ++ p) (by omega)
  have k2 : endOf (d ++ p) = lens (rdAll 40 0 (d ++ p)) := rfl
  obtain ⟨m, rfl⟩ : ∃ m : Nat, n = m := ⟨n.toNat, by omega⟩
  have k3 := line_726 (n := m) (by omega) hr
  rw [app_assoc, size_append]
  omega
theorem ev_uniq {α : Type} {g : Nat → Option α} {a b : α} (h : Ev g a) (k : Ev g b) : a = b := by
  obtain ⟨K, hK⟩ := h
  obtain ⟨K', hK'⟩ := k
  exact Option.some.inj ((hK (K + K') (by omega)).symm.trans (hK' (K + K') (by omega)))
theorem nil_app (s : ByteArray) : s ++ (⟨#[]⟩ : ByteArray) = s := bytes_inj (by rw [bytes_append]; simp [bytesOf])
theorem ok_sync {d p : ByteArray} {n : Int} (h : okLog d p n = true) : okLog (d ++ p) (⟨#[]⟩ : ByteArray) n = true := by
  obtain ⟨h1, h2, h3, h4⟩ := okLog_parts h
  have e0 : (⟨#[]⟩ : ByteArray).size = 0 := rfl
  unfold okLog
  rw [nil_app, e0, Nat.add_zero, size_append]
  rw [size_append] at h2
  simp only [Bool.and_eq_true, decide_eq_true_eq]
  exact ⟨h1, h2, h2, h4⟩
theorem rec_eq {d p : ByteArray} {n : Int} : recsOf (d ++ p) (⟨#[]⟩ : ByteArray) n = recsOf (d ++ p) (⟨#[]⟩ : ByteArray) n := rfl
theorem vRecords_ev (xs : List S33) (hx : xs.length ≤ 1000000) : Ev (fun k => laws_vRecords.f k xs xs) true := by
  unfold laws_vRecords.f
  refine ev_pos rfl ?_
  refine ev_down (g := fun k i => laws_vRecords.l0 k xs xs (i : Nat)) (R := fun _ => true) xs.length (Ev.step (fun k => by unfold laws_vRecords.l0; rfl) (ev_neg (by omega) (ev_eq rfl))) (fun i hi ih => ?_) 0 (Nat.zero_le _)
  refine Ev.step (fun k => by unfold laws_vRecords.l0; rfl) (ev_pos (by omega) (ev_pos (by omega) (ev_pos (by omega) (ev_neg (by simp) ?_))))
  rw [inc (by omega)]
  exact ih
end Go.Proofs.YtnjjchbhbicmoaaDoor.Pl
