/- Plain: texts cut at a byte: the reference's split, the library's Cut. -/
import Derived.Test.YtnjjchbhbicmoaaDoorX3
import Derived.Test.YtnjjchbhbicmoaaDoorX7
import Derived.Test.YtnjjchbhbicmoaaDoorPl
import Derived.Lib.IndexBytes
import Derived.Lib.IndexMore
set_option linter.unusedVariables false
set_option linter.unusedSimpArgs false
namespace Go.Proofs.YtnjjchbhbicmoaaDoor.Pl
open Go.RowKit Go.Proofs.YtnjjchbhbicmoaaDoorW.PrintWords Go.Proofs.YtnjjchbhbicmoaaDoorW.PrintLast Go.Proofs.YtnjjchbhbicmoaaDoorW.PrintMore Go.Proofs.YtnjjchbhbicmoaaDoor.X

/-- All ahead of the first c. -/
def takeTo (c : Int) : List Int → List Int
  | [] => []
  | b :: l => if b = c then [] else b :: takeTo c l
theorem takeTo_no {c : Int} {l : List Int} (h : c ∉ l) : takeTo c l = l := by
  induction l with
  | nil => rfl
  | cons b l ih =>
    simp only [List.mem_cons, not_or] at h
    unfold takeTo
    rw [if_neg (fun e => h.1 e.symm), ih h.2]
theorem takeTo_at {c : Int} {p q : List Int} (h : c ∉ p) : takeTo c (p ++ c :: q) = p := by
  induction p with
  | nil => simp [takeTo]
  | cons b p ih =>
    simp only [List.mem_cons, not_or] at h
    rw [List.cons_append, takeTo, if_neg (fun e => h.1 e.symm), ih h.2]
theorem takeTo_free (c : Int) (l : List Int) : c ∉ takeTo c l := by
  induction l with
  | nil => simp [takeTo]
  | cons b l ih =>
    unfold takeTo
    by_cases h : b = c
    · rw [if_pos h]; simp
    · rw [if_neg h]; simp only [List.mem_cons, not_or]; exact ⟨fun e => h e.symm, ih⟩
theorem takeTo_take (c : Int) (l : List Int) : l.take (takeTo c l).length = takeTo c l := by
  induction l with
  | nil => rfl
  | cons b l ih =>
    unfold takeTo
    by_cases h : b = c
    · rw [if_pos h]; rfl
    · rw [if_neg h, List.length_cons, List.take_succ_cons, ih]
theorem takeTo_le (c : Int) (l : List Int) : (takeTo c l).length ≤ l.length := by
  rw [← takeTo_take, List.length_take]; omega
theorem takeTo_lt {c : Int} {l : List Int} (h : c ∈ l) : (takeTo c l).length < l.length := by
  induction l with
  | nil => simp at h
  | cons b l ih =>
    unfold takeTo
    by_cases e : b = c
    · rw [if_pos e]; simp
    · rw [if_neg e]
      have := ih ((List.mem_cons.1 h).resolve_left (fun hh => e hh.symm))
      simp only [List.length_cons]; omega
theorem takeTo_append {c : Int} {p q : List Int} (h : c ∈ p) : takeTo c (p ++ q) = takeTo c p := by
  induction p with
  | nil => simp at h
  | cons b p ih =>
    rw [List.cons_append, takeTo, takeTo]
    by_cases e : b = c
    · rw [if_pos e, if_pos e]
    · rw [if_neg e, if_neg e, ih ((List.mem_cons.1 h).resolve_left (fun hh => e hh.symm))]
theorem takeTo_far {c : Int} {p q : List Int} (h : c ∉ p) : p.length ≤ (takeTo c (p ++ q)).length := by
  induction p with
  | nil => simp
  | cons b p ih =>
    simp only [List.mem_cons, not_or] at h
    rw [List.cons_append, takeTo, if_neg (fun e => h.1 e.symm)]
    have := ih h.2
    simp only [List.length_cons]; omega
def headB (c : Int) (s : ByteArray) : ByteArray := s.extract 0 (takeTo c (bytesOf s)).length
def tailB (c : Int) (s : ByteArray) : ByteArray := s.extract ((takeTo c (bytesOf s)).length + 1) s.size
theorem headB_bytes (c : Int) (s : ByteArray) : bytesOf (headB c s) = takeTo c (bytesOf s) := by
  unfold headB
  rw [bytes_extract, List.drop_zero, Nat.sub_zero, takeTo_take]
theorem suf_bytes (s : ByteArray) (a : Nat) : bytesOf (s.extract a s.size) = (bytesOf s).drop a := by
  rw [bytes_extract, List.take_of_length_le (by rw [List.length_drop, bytes_size]; omega)]
theorem tailB_bytes (c : Int) (s : ByteArray) : bytesOf (tailB c s) = (bytesOf s).drop ((takeTo c (bytesOf s)).length + 1) := suf_bytes s _
theorem headB_size (c : Int) (s : ByteArray) : (headB c s).size = (takeTo c (bytesOf s)).length := by rw [← bytes_size, headB_bytes]
theorem headB_le (c : Int) (s : ByteArray) : (headB c s).size ≤ s.size := by rw [headB_size, ← bytes_size]; exact takeTo_le _ _
theorem tailB_size (c : Int) (s : ByteArray) : (tailB c s).size = s.size - ((headB c s).size + 1) := by rw [← bytes_size, tailB_bytes, List.length_drop, bytes_size, headB_size]
theorem tail_suf (c : Int) (s : ByteArray) (a : Nat) : tailB c (s.extract a s.size) = s.extract (a + ((headB c (s.extract a s.size)).size + 1)) s.size := by
  refine bytes_inj ?_
  rw [tailB_bytes, suf_bytes, suf_bytes, List.drop_drop, headB_size, suf_bytes]
theorem suf_zero (s : ByteArray) : s.extract 0 s.size = s := bytes_inj (by rw [suf_bytes, List.drop_zero])
theorem indexByte_take (c : UInt8) (l : List UInt8) : Lib.indexByte l c = if (c.toNat : Int) ∈ l.map (fun b => (b.toNat : Int)) then ((takeTo c.toNat (l.map fun b => (b.toNat : Int))).length : Int) else -1 := by
  induction l with
  | nil => rfl
  | cons b l ih =>
    rw [Lib.indexByte, List.map_cons, takeTo]
    by_cases e : b = c
    · subst e; simp
    · have e1 : (b == c) = false := by simpa using e
      have e2 : ¬ ((b.toNat : Int) = (c.toNat : Int)) := fun h => e (UInt8.toNat.inj (by omega))
      rw [e1, if_neg (by simp), if_neg e2, ih]
      by_cases h : (c.toNat : Int) ∈ l.map (fun b => (b.toNat : Int))
      · rw [if_pos h, if_pos (List.mem_cons_of_mem _ h)]
        have : ¬ ((((takeTo c.toNat (l.map fun b => (b.toNat : Int))).length : Int)) == -1) = true := by rw [beq_iff_eq]; omega
        rw [if_neg this, List.length_cons]; omega
      · rw [if_neg h, if_pos (show ((-1 : Int) == -1) = true from rfl), if_neg (by simp only [List.mem_cons, not_or]; exact ⟨fun hh => e2 hh.symm, h⟩)]
theorem Cut_eq (s : ByteArray) (c : UInt8) (hs : s.size < 4294967281) : strings_Cut.f s ⟨#[c]⟩ = some (headB c.toNat s, tailB c.toNat s, decide ((c.toNat : Int) ∈ bytesOf s)) := by
  unfold strings_Cut.f
  rw [if_pos hs]
  have hl : (⟨#[c]⟩ : ByteArray).data.toList = [c] := rfl
  have hi := indexByte_take c s.data.toList
  have hb : s.data.toList.map (fun b => (b.toNat : Int)) = bytesOf s := rfl
  rw [hb] at hi
  unfold Lib.cut
  rw [hl, Lib.index_one, hi]
  by_cases h : (c.toNat : Int) ∈ bytesOf s
  · rw [if_pos h, if_pos (by omega), decide_eq_true h]
    refine congrArg some (Prod.ext (bytes_inj ?_) (Prod.ext (bytes_inj ?_) rfl))
    · rw [headB_bytes]
      refine Eq.trans ?_ (takeTo_take _ _)
      simp only [bytesOf, List.map_take, Int.toNat_natCast]
    · rw [tailB_bytes]
      simp only [bytesOf, List.map_drop, Int.toNat_natCast, List.length_singleton]
  · rw [if_neg h, if_neg (by omega), decide_eq_false h]
    refine congrArg some (Prod.ext (bytes_inj ?_) (Prod.ext (bytes_inj ?_) rfl))
    · rw [headB_bytes, takeTo_no h]
    · rw [tailB_bytes, takeTo_no h, List.drop_eq_nil_iff.2 (by omega)]; rfl
/-! ### the reference's split -/
def splitL (c : Int) : List Int → List (List Int)
  | [] => [[]]
  | b :: l => if b = c then [] :: splitL c l else (b :: (splitL c l).headD []) :: (splitL c l).tail
theorem splitL_ne (c : Int) (l : List Int) : splitL c l ≠ [] := by
  cases l with
  | nil => simp [splitL]
  | cons b l => unfold splitL; split <;> simp
theorem splitL_head (c : Int) (l : List Int) : (splitL c l).headD [] = takeTo c l := by
  induction l with
  | nil => rfl
  | cons b l ih =>
    unfold splitL takeTo
    by_cases h : b = c
    · rw [if_pos h, if_pos h]; rfl
    · rw [if_neg h, if_neg h, List.headD_cons, ih]
theorem splitL_two (c : Int) (l : List Int) : 2 ≤ (splitL c l).length ↔ c ∈ l := by
  induction l with
  | nil => simp [splitL]
  | cons b l ih =>
    have hp : 0 < (splitL c l).length := List.length_pos_iff.2 (splitL_ne c l)
    unfold splitL
    by_cases h : b = c
    · rw [if_pos h, List.length_cons]
      exact ⟨fun _ => by rw [h]; exact List.mem_cons_self, fun _ => by omega⟩
    · rw [if_neg h, List.length_cons, List.length_tail]
      have e : (splitL c l).length - 1 + 1 = (splitL c l).length := by omega
      rw [e, ih, List.mem_cons]
      exact ⟨fun k => .inr k, fun k => k.resolve_left fun hh => h hh.symm⟩
theorem l1Split_ev (s : ByteArray) (c : Int) (hs : s.size ≤ 1048576) : ∃ L, Ev (fun k => spec_l1Split.f k s c) L ∧ L.map bytesOf = splitL c (bytesOf s) := by
  have key : ∀ m (i st : Nat) (acc : List ByteArray), s.size - i = m → st ≤ i → i ≤ s.size → acc.length ≤ i → ∃ L, Ev (fun k => spec_l1Split.l0 k s c acc st i) (acc ++ L) ∧
      L.map bytesOf = ((((bytesOf s).drop st).take (i - st)) ++ (splitL c ((bytesOf s).drop i)).headD []) :: (splitL c ((bytesOf s).drop i)).tail := by
    intro m
    induction m with
    | zero =>
      intro i st acc hm h1 h2 h3
      obtain rfl : i = s.size := by omega
      refine ⟨[s.extract st s.size], Ev.step (fun k => by simp only [spec_l1Split.l0]; rfl) (ev_neg (by omega) (ev_pos (by omega) (ev_pos (by omega) (ev_pos (by omega) (ev_eq ?_))))), ?_⟩
      · simp only [Int.toNat_natCast]
      · rw [bytes_end]
        simp [splitL, bytes_extract]
    | succ m ih =>
      intro i st acc hm h1 h2 h3
      have hi : i < s.size := by omega
      have hd := bytes_drop hi
      by_cases h : bt s i = c
      · obtain ⟨L, hL, hb⟩ := ih (i + 1) (i + 1) (acc ++ [s.extract st i]) (by omega) (Nat.le_refl _) (by omega) (by simp; omega)
        refine ⟨s.extract st i :: L, Ev.step (fun k => by simp only [spec_l1Split.l0]; rfl) (ev_pos (by omega) (ev_pos (by omega) (ev_pos h (ev_pos (by omega) (ev_pos (by omega) (ev_pos (by omega) (ev_pos (by omega) ?_))))))), ?_⟩
        · rw [inc (by omega)]
          simp only [Int.toNat_natCast]
          simpa using hL
        · rw [hd, splitL, if_pos h, List.map_cons, hb, bytes_extract]
          have hne := splitL_ne c ((bytesOf s).drop (i + 1))
          cases hq : splitL c ((bytesOf s).drop (i + 1)) with
          | nil => exact absurd hq hne
          | cons x y => simp
      · obtain ⟨L, hL, hb⟩ := ih (i + 1) st acc (by omega) (by omega) (by omega) (by omega)
        refine ⟨L, Ev.step (fun k => by simp only [spec_l1Split.l0]; rfl) (ev_pos (by omega) (ev_pos (by omega) (ev_neg h ?_))), ?_⟩
        · rw [inc (by omega)]; exact hL
        · rw [hd, splitL, if_neg h, hb, List.headD_cons, List.tail_cons]
          have e : ((bytesOf s).drop st).take (i + 1 - st) = ((bytesOf s).drop st).take (i - st) ++ [bt s i] := by
            have : i + 1 - st = (i - st) + 1 := by omega
            rw [this, List.take_add_one]
            congr 1
            rw [List.getElem?_drop, show st + (i - st) = i by omega, bt_eq, List.getD, List.getElem?_eq_getElem (by rw [bytes_size]; exact hi)]
            rfl
          rw [e]; simp
  obtain ⟨L, h1, h2⟩ := key _ 0 0 [] rfl (Nat.le_refl _) (Nat.zero_le _) (Nat.le_refl _)
  refine ⟨L, by simpa [spec_l1Split.f] using h1, ?_⟩
  rw [h2, List.drop_zero]
  have hne := splitL_ne c (bytesOf s)
  cases hq : splitL c (bytesOf s) with
  | nil => exact absurd hq hne
  | cons x y => simp
/-- What the reference's split is asked for: its first piece, and whether there are two. -/
theorem l1Split_head (s : ByteArray) (c : Int) (hs : s.size ≤ 1048576) : ∃ L, Ev (fun k => spec_l1Split.f k s c) L ∧ 0 < L.length ∧ rdOf ByteArray.empty L 0 = headB c s ∧ (2 ≤ L.length ↔ c ∈ bytesOf s) := by
  obtain ⟨L, h1, h2⟩ := l1Split_ev s c hs
  have hl : L.length = (splitL c (bytesOf s)).length := by rw [← h2, List.length_map]
  have hp : 0 < (splitL c (bytesOf s)).length := List.length_pos_iff.2 (splitL_ne c (bytesOf s))
  refine ⟨L, h1, by omega, ?_, by rw [hl]; exact splitL_two c (bytesOf s)⟩
  refine bytes_inj ?_
  rw [headB_bytes, ← splitL_head, ← h2]
  cases L with
  | nil => simp at hl; omega
  | cons x y => rfl
end Go.Proofs.YtnjjchbhbicmoaaDoor.Pl
