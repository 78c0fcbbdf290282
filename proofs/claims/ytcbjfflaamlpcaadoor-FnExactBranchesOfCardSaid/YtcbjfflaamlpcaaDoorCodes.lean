/- Plain: the code test of the program and of the reference are one Bool. -/
import Derived.Test.YtcbjfflaamlpcaaDoorX6
import Derived.Test.YtcbjfflaamlpcaaDoorX7
import Derived.Test.YtcbjfflaamlpcaaDoorPl
import Derived.Lib.SlTrimSet
set_option linter.unusedVariables false
set_option linter.unusedSimpArgs false
namespace Go.Proofs.YtcbjfflaamlpcaaDoor.Pure
open Go.RowKit Go.Proofs.YtcbjfflaamlpcaaDoorW.PrintWords Go.Proofs.YtcbjfflaamlpcaaDoorW.PrintLast Go.Proofs.YtcbjfflaamlpcaaDoorW.PrintMore Go.Proofs.YtcbjfflaamlpcaaDoor.X Go.Proofs.YtcbjfflaamlpcaaDoor.Pl

def isBit (c : Int) : Bool := decide (c = 48) || decide (c = 49)
def bitsB (s : ByteArray) (m : Int) : Bool := (bytesOf s).all isBit && decide ((s.size : Int) ≤ m)
def begB (a b : ByteArray) : Bool := (bytesOf b).isPrefixOf (bytesOf a)
theorem l1In_eq (a b c : Int) : spec_l1In.f a b c = some (decide (b ≤ a) && decide (a ≤ c)) := by
  unfold spec_l1In.f
  by_cases h : a ≥ b
  · have h' : b ≤ a := h
    simp [h, h']
  · have h' : ¬ b ≤ a := h
    simp [h, h']
theorem in_eq (a b c : Int) : impl_in.f a b c = some (decide (b ≤ a) && decide (a ≤ c)) := by
  unfold impl_in.f
  by_cases h : a ≥ b
  · have h' : b ≤ a := h
    simp [h, h']
  · have h' : ¬ b ≤ a := h
    simp [h, h']
theorem beg_eq (a b : ByteArray) : (if (a.size : Int) ≥ (b.size : Int) then (if 0 ≤ (b.size : Int) then (if (b.size : Int) ≤ (a.size : Int) then (some ((a.extract 0 b.size).toList == b.toList)) else none) else none) else (some false)) = some (begB a b) := by
  by_cases h : (a.size : Int) ≥ (b.size : Int)
  · rw [if_pos h, if_pos (by omega), if_pos h]
    congr 1
    unfold begB
    rw [Bool.eq_iff_iff, beq_iff_eq, toList_inj, List.isPrefixOf_iff_prefix]
    constructor
    · intro e
      rw [← e, bytes_extract]; simp
      exact List.take_prefix _ _
    · intro hp
      apply bytes_inj
      rw [bytes_extract]; simp
      rw [← bytes_size b]
      exact (List.prefix_iff_eq_take.1 hp).symm
  · rw [if_neg h]
    congr 1
    unfold begB
    rw [eq_comm, Bool.eq_false_iff]
    intro hp
    rw [List.isPrefixOf_iff_prefix] at hp
    have := hp.length_le
    rw [bytes_size, bytes_size] at this
    omega
theorem l2Begins_eq (a b : ByteArray) : spec_l2Begins.f a b = some (begB a b) := beg_eq a b
theorem hasPrefix_eq (a b : ByteArray) : strings_HasPrefix.f a b = some (begB a b) := by
  unfold strings_HasPrefix.f stringslite_HasPrefix.f
  rw [beg_eq]; rfl
theorem l10Bits_ev (s : ByteArray) (m : Int) (hs : s.size ≤ 140737488351232) (hm : m ≤ 1000000) : Ev (fun k => spec_l10Bits.f k s m) (bitsB s m) := by
  have key := ev_all (g := fun k i => spec_l10Bits.l0 k s m (i : Nat)) (n := s.size) (P := fun i => !decide ((i : Int) ≤ m) || isBit (bt s i)) (fin := decide ((s.size : Int) ≤ m))
  have key := ev_down (g := fun k i => spec_l10Bits.l0 k s m (i : Nat)) (R := fun i => if (s.size : Int) ≤ m then ((bytesOf s).drop i).all isBit else false) s.size
    (by
      refine Ev.step (fun k => by simp only [spec_l10Bits.l0]; rfl) (ev_neg (by omega) ?_)
      refine Ev.step (fun k => by simp only [spec_l10Bits.j1]; rfl) (ev_neg (by simp) (ev_eq ?_))
      by_cases h : (s.size : Int) ≤ m <;> simp [h, bytes_end])
    (fun i hi ih => by
      refine Ev.step (fun k => by simp only [spec_l10Bits.l0]; rfl) (ev_pos (by omega) ?_)
      refine Ev.step (fun k => by simp only [spec_l10Bits.j1]; rfl) ?_
      by_cases h1 : (i : Int) ≤ m
      · refine ev_pos (by simp [h1]) (ev_pos (by omega) (ev_pos (by omega) ?_))
        simp only [inc (show i ≤ 9223372036854775806 by omega), bytes_drop hi, List.all_cons]
        by_cases h2 : bt s i = 48
        · simp only [if_pos h2]
          have : isBit (bt s i) = true := by simp [isBit, h2]
          simpa [this] using ih
        · simp only [if_neg h2]
          by_cases h3 : bt s i = 49
          · simp only [if_pos h3]
            have : isBit (bt s i) = true := by simp [isBit, h3]
            simpa [this] using ih
          · simp only [if_neg h3]
            have : isBit (bt s i) = false := by simp [isBit, h2, h3]
            exact ev_eq (by simp [this])
      · refine ev_neg (by simp [h1]) (ev_eq ?_)
        have : ¬ (s.size : Int) ≤ m := by omega
        simp [this])
  have := key 0 (by omega)
  have e : (if (s.size : Int) ≤ m then ((bytesOf s).drop 0).all isBit else false) = bitsB s m := by
    unfold bitsB
    by_cases h : (s.size : Int) ≤ m <;> simp [h]
  rw [e] at this
  exact this
theorem dropWhile_nil {α : Type} {p : α → Bool} : ∀ {l : List α}, l.dropWhile p = [] ↔ ∀ x ∈ l, p x = true
  | [] => by simp
  | a :: l => by
    rw [List.dropWhile_cons]
    cases h : p a with
    | true => rw [if_pos rfl, dropWhile_nil (l := l)]; simp [h]
    | false => rw [if_neg (by decide)]; simp [h]
theorem dropWhile_head {α : Type} {p : α → Bool} : ∀ {l : List α} {a : α} {r : List α}, l.dropWhile p = a :: r → p a = false
  | b :: l, a, r, h => by
    rw [List.dropWhile_cons] at h
    cases hb : p b with
    | true => rw [hb, if_pos rfl] at h; exact dropWhile_head h
    | false => rw [hb, if_neg (by decide)] at h; cases h; exact hb
theorem trim_nil (l : List UInt8) (cs : List UInt8) : Lib.trimS l cs = [] ↔ ∀ x ∈ l, cs.contains x = true := by
  unfold Lib.trimS Lib.trimLeftS Lib.trimRightS
  rw [dropWhile_nil]
  constructor
  · intro h
    have h2 : l.reverse.dropWhile (cs.contains ·) = [] := by
      cases hd : l.reverse.dropWhile (cs.contains ·) with
      | nil => rfl
      | cons a r =>
        exfalso
        have h3 := h a (by rw [hd]; simp)
        have h4 := dropWhile_head hd
        rw [h3] at h4
        exact absurd h4 (by decide)
    rw [dropWhile_nil] at h2
    intro x hx
    exact h2 x (by simpa using hx)
  · intro h x hx
    have h2 : l.reverse.dropWhile (cs.contains ·) = [] := by
      rw [dropWhile_nil]
      intro y hy
      exact h y (by simpa using hy)
    rw [h2] at hx; simp at hx
theorem areSigns_eq (s : ByteArray) (m : Int) (hs : s.size ≤ 140737488351232) : impl_areSigns.f s m = some (bitsB s m) := by
  unfold impl_areSigns.f strings_Trim.f
  by_cases h : (s.size : Int) ≤ m
  · rw [if_pos h, if_pos ⟨by omega, by decide, by decide⟩]
    simp only [Option.bind_some]
    congr 1
    unfold bitsB
    rw [decide_eq_true h, Bool.and_true, Bool.eq_iff_iff, beq_iff_eq, toList_bytes]
    have : (⟨(Lib.trimS s.data.toList (⟨#[48, 49]⟩ : ByteArray).data.toList).toArray⟩ : ByteArray).data.toList = Lib.trimS s.data.toList [48, 49] := by simp
    rw [this, trim_nil]
    unfold bytesOf
    rw [List.all_map, List.all_eq_true]
    refine forall_congr' fun x => forall_congr' fun _ => ?_
    simp only [List.contains_cons, List.contains_nil, Bool.or_false, Function.comp, isBit, Bool.or_eq_true, beq_iff_eq, decide_eq_true_eq]
    constructor
    · rintro (rfl | rfl)
      · exact .inl rfl
      · exact .inr rfl
    · rintro (h | h)
      · exact .inl (UInt8.toNat.inj (by have : (48 : UInt8).toNat = 48 := rfl; omega))
      · exact .inr (UInt8.toNat.inj (by have : (49 : UInt8).toNat = 49 := rfl; omega))
  · rw [if_neg h]
    congr 1
    unfold bitsB
    simp [h]
/-- A code, as one Bool. -/
def seqB (s : ByteArray) : Bool := !(bytesOf s).isEmpty && bitsB s 14
def codeB (l : List ByteArray) : Bool := (decide (1 ≤ (l.length : Int)) && decide ((l.length : Int) ≤ 12)) && allN l.length (fun i => seqB (l.getD i ByteArray.empty) && allN l.length (fun j => decide (j = i) || !begB (l.getD j ByteArray.empty) (l.getD i ByteArray.empty)))
theorem nonempty {s : ByteArray} : s.toList = ([] : List UInt8) ↔ (bytesOf s).isEmpty = true := by rw [bytes_nil]; simp
theorem l10Code_ev (l : List ByteArray) (hl : l.length * 16 ≤ 140737488351232) (hs : ∀ y ∈ l, y.size ≤ 140737488351232) : Ev (fun k => spec_l10Code.f k l) (codeB l) := by
  unfold spec_l10Code.f codeB
  simp only [l1In_eq, Option.bind_some]
  refine ev_ite (fun h => ?_) (fun h => ev_eq (by rw [Bool.eq_false_iff.2 h]; rfl))
  rw [h, Bool.true_and]
  have key := ev_all (g := fun k i => spec_l10Code.l0 k l (i : Nat)) (n := l.length) (P := fun i => seqB (l.getD i ByteArray.empty) && allN l.length (fun j => decide (j = i) || !begB (l.getD j ByteArray.empty) (l.getD i ByteArray.empty))) (fin := true)
    (Ev.step (fun k => by simp only [spec_l10Code.l0]; rfl) (ev_neg (by omega) (ev_eq rfl)))
    (fun i hi R hR => by
      have inner : Ev (fun k => spec_l10Code.l1 k l (i : Int) 0) (allN l.length (fun j => decide (j = i) || !begB (l.getD j ByteArray.empty) (l.getD i ByteArray.empty)) && R) := by
        refine ev_all (g := fun k j => spec_l10Code.l1 k l (i : Int) (j : Nat)) ?_ (fun j hj R' hR' => ?_)
        · refine Ev.step (fun k => by simp only [spec_l10Code.l1]; rfl) (ev_neg (by omega) ?_)
          simp only [inc (show i ≤ 9223372036854775806 by omega)]
          exact hR
        · refine Ev.step (fun k => by simp only [spec_l10Code.l1]; rfl) (ev_pos (by omega) ?_)
          simp only [inc (show j ≤ 9223372036854775806 by omega), rdOf_nat, l2Begins_eq, Option.bind_some]
          by_cases e : j = i
          · subst e
            refine ev_pos rfl ?_
            simpa using hR'
          · refine ev_neg (by omega) (ev_pos (by omega) (ev_pos (by omega) (ev_pos (by omega) ?_)))
            simp only [e, decide_false, Bool.false_or]
            refine ev_ite (fun h => ev_eq (by rw [h]; rfl)) (fun h => ?_)
            rw [Bool.eq_false_iff.2 h]; simpa using hR'
      have hy := hs _ (getD_mem hi ByteArray.empty)
      refine Ev.step (fun k => by simp only [spec_l10Code.l0]; rfl) (ev_pos (by omega) (ev_pos (by omega) ?_))
      simp only [rdOf_nat]
      refine ev_ite (fun h => ?_) (fun h => ?_)
      · refine Ev.step (fun k => by simp only [spec_l10Code.j1]; rfl) (ev_pos (by simp) (ev_eq ?_))
        have hne := nonempty.1 h
        unfold seqB; rw [hne]; rfl
      · refine Ev.bind (l10Bits_ev _ 14 hy (by omega)) ?_
        refine Ev.step (fun k => by simp only [spec_l10Code.j1]; rfl) ?_
        have hne : (bytesOf (l.getD i ByteArray.empty)).isEmpty = false := Bool.eq_false_iff.2 (fun h' => h (nonempty.2 h'))
        unfold seqB
        rw [hne]
        cases hb : bitsB (l.getD i ByteArray.empty) 14 with
        | false => exact ev_pos (by simp) (ev_eq (by simp))
        | true => exact ev_neg (by simp) (by simpa using inner))
  rwa [Bool.and_true] at key
theorem isCode_ev (l : List ByteArray) (hl : l.length * 16 ≤ 140737488351232) (hs : ∀ y ∈ l, y.size ≤ 140737488351232) : Ev (fun k => impl_isCode.f k l) (codeB l) := by
  have e : codeB l = ((decide (1 ≤ (l.length : Int)) && decide ((l.length : Int) ≤ 12)) && allN l.length (fun i => seqB (l.getD i ByteArray.empty) && allN i (fun j => !begB (l.getD i ByteArray.empty) (l.getD j ByteArray.empty) && !begB (l.getD j ByteArray.empty) (l.getD i ByteArray.empty)))) := by
    unfold codeB
    congr 1
    rw [Bool.eq_iff_iff, allN_iff, allN_iff]
    simp only [Bool.and_eq_true, allN_iff, Bool.or_eq_true, decide_eq_true_eq]
    constructor
    · intro h i hi
      refine ⟨(h i hi).1, fun j hj => ⟨?_, ?_⟩⟩
      · exact ((h j (by omega)).2 i hi).resolve_left (by omega)
      · exact ((h i hi).2 j (by omega)).resolve_left (by omega)
    · intro h i hi
      refine ⟨(h i hi).1, fun j hj => ?_⟩
      by_cases e : j = i
      · exact .inl e
      · right
        rcases Nat.lt_or_ge j i with hlt | hge
        · exact ((h i hi).2 j hlt).2
        · exact ((h j hj).2 i (by omega)).1
  rw [e]
  unfold impl_isCode.f
  simp only [in_eq, Option.bind_some]
  refine ev_ite (fun h => ?_) (fun h => ev_eq (by rw [Bool.eq_false_iff.2 h]; rfl))
  rw [h, Bool.true_and]
  have key := ev_all (g := fun k i => impl_isCode.l0 k l l (l.length : Int) (i : Nat)) (n := l.length) (P := fun i => seqB (l.getD i ByteArray.empty) && allN i (fun j => !begB (l.getD i ByteArray.empty) (l.getD j ByteArray.empty) && !begB (l.getD j ByteArray.empty) (l.getD i ByteArray.empty))) (fin := true)
    (Ev.step (fun k => by simp only [impl_isCode.l0]; rfl) (ev_neg (by omega) (ev_eq rfl)))
    (fun i hi R hR => by
      have hlt : (l.take i).length = i := by simp; omega
      have inner : Ev (fun k => impl_isCode.l1 k l (l.getD i ByteArray.empty) l (l.length : Int) (i : Int) (l.take i) (i : Int) 0) (allN i (fun j => !begB (l.getD i ByteArray.empty) (l.getD j ByteArray.empty) && !begB (l.getD j ByteArray.empty) (l.getD i ByteArray.empty)) && R) := by
        refine ev_all (g := fun k j => impl_isCode.l1 k l (l.getD i ByteArray.empty) l (l.length : Int) (i : Int) (l.take i) (i : Int) (j : Nat)) ?_ (fun j hj R' hR' => ?_)
        · refine Ev.step (fun k => by simp only [impl_isCode.l1]; rfl) (ev_neg (by omega) ?_)
          simp only [inc (show i ≤ 9223372036854775806 by omega)]
          exact hR
        · refine Ev.step (fun k => by simp only [impl_isCode.l1]; rfl) (ev_pos (by omega) (ev_pos (by omega) (ev_pos (by omega) ?_)))
          have et : (l.take i).getD j ByteArray.empty = l.getD j ByteArray.empty := by
            simp [List.getD, List.getElem?_take_of_lt hj]
          simp only [inc (show j ≤ 9223372036854775806 by omega), rdOf_nat, hasPrefix_eq, Option.bind_some, et]
          refine ev_ite (fun h => ev_eq (by rw [h]; rfl)) (fun h => ?_)
          rw [Bool.eq_false_iff.2 h]
          refine ev_ite (fun h2 => ev_eq (by rw [h2]; rfl)) (fun h2 => ?_)
          rw [Bool.eq_false_iff.2 h2]; simpa using hR'
      have hy := hs _ (getD_mem hi ByteArray.empty)
      have tail : Ev (fun k => impl_isCode.j1 k l (i : Int) (l.getD i ByteArray.empty) l (l.length : Int) (i : Int) false) (allN i (fun j => !begB (l.getD i ByteArray.empty) (l.getD j ByteArray.empty) && !begB (l.getD j ByteArray.empty) (l.getD i ByteArray.empty)) && R) := by
        refine Ev.step (fun k => by simp only [impl_isCode.j1]; rfl) (ev_neg (by simp) (ev_pos (by omega) (ev_pos (by omega) ?_)))
        simp only [Int.toNat_natCast, hlt]
        exact inner
      refine Ev.step (fun k => by simp only [impl_isCode.l0]; rfl) (ev_pos (by omega) (ev_pos (by omega) (ev_pos (by omega) ?_)))
      simp only [rdOf_nat]
      refine ev_ite (fun h => ?_) (fun h => ?_)
      · refine Ev.step (fun k => by simp only [impl_isCode.j1]; rfl) (ev_pos (by simp) (ev_eq ?_))
        have hne := nonempty.1 h
        unfold seqB; rw [hne]; rfl
      · simp only [areSigns_eq _ 14 hy, Option.bind_some]
        have hne : (bytesOf (l.getD i ByteArray.empty)).isEmpty = false := Bool.eq_false_iff.2 (fun h' => h (nonempty.2 h'))
        unfold seqB
        rw [hne]
        cases hb : bitsB (l.getD i ByteArray.empty) 14 with
        | false => exact Ev.step (fun k => by simp only [impl_isCode.j1]; rfl) (ev_pos (by simp) (ev_eq (by simp)))
        | true => simpa using tail)
  rwa [Bool.and_true] at key
end Go.Proofs.YtcbjfflaamlpcaaDoor.Pure
