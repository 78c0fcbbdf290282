/- Plain: a text cut at a byte, and put together again. -/
import Derived.Test.YtnjjchbhbicmoaaGreatDoorSets
import Derived.Lib.SplitLaws
import Derived.Lib.Join
set_option linter.unusedVariables false
set_option linter.unusedSimpArgs false
namespace Go.Proofs.YtnjjchbhbicmoaaGreatDoor.Pl
open Go.RowKit Go.Proofs.YtnjjchbhbicmoaaGreatDoorW.PrintWords Go.Proofs.YtnjjchbhbicmoaaGreatDoorW.PrintLast Go.Proofs.YtnjjchbhbicmoaaGreatDoorW.PrintMore

def consW (x : UInt8) : List Wd → List Wd
  | [] => [[x]]
  | w :: r => (x :: w) :: r
def splitW (c : UInt8) : Wd → List Wd
  | [] => [[]]
  | x :: l => if x = c then [] :: splitW c l else consW x (splitW c l)
theorem splitW_hit (c : UInt8) (l : Wd) : splitW c (c :: l) = [] :: splitW c l := if_pos rfl
theorem splitW_miss {c x : UInt8} (h : x ≠ c) (l : Wd) : splitW c (x :: l) = consW x (splitW c l) := if_neg h
theorem splitW_cons (c : UInt8) : ∀ l : Wd, ∃ w r, splitW c l = w :: r
  | [] => ⟨[], [], rfl⟩
  | x :: l => by
    unfold splitW
    by_cases h : x = c
    · rw [if_pos h]; exact ⟨_, _, rfl⟩
    · rw [if_neg h]
      obtain ⟨w, r, e⟩ := splitW_cons c l
      rw [e]; exact ⟨_, _, rfl⟩
theorem index_cons_ne {x c : UInt8} (h : x ≠ c) (l : Wd) : Lib.index (x :: l) [c] = if Lib.index l [c] == -1 then -1 else Lib.index l [c] + 1 := by
  have hp : ([c] : List UInt8).isPrefixOf (x :: l) = false := by simp [List.isPrefixOf, Ne.symm h]
  rw [Lib.index, hp]; simp
theorem splitK_eq (c : UInt8) : ∀ l : Wd, Lib.splitK [c] 0 (l.count c) l = splitW c l
  | [] => rfl
  | x :: l => by
    unfold splitW
    have ih := splitK_eq c l
    by_cases h : x = c
    · subst h
      have hix : Lib.index (x :: l) [x] = 0 := by rw [Lib.index]; simp [List.isPrefixOf]
      rw [if_pos rfl, List.count_cons_self]
      unfold Lib.splitK
      rw [hix, if_neg (by decide)]
      show ([] : List UInt8) :: Lib.splitK [x] 0 (l.count x) l = _
      rw [ih]
    · rw [if_neg h, List.count_cons_of_ne (by simpa using h), ← ih]
      cases hk : l.count c with
      | zero => rfl
      | succ k =>
        unfold Lib.splitK
        rw [index_cons_ne h]
        have hge := Lib.index_ge l [c]
        by_cases hm : Lib.index l [c] = -1
        · rw [hm]; rfl
        · obtain ⟨j, hj⟩ : ∃ j : Nat, Lib.index l [c] = j := ⟨(Lib.index l [c]).toNat, by omega⟩
          rw [hj]
          have e1 : ¬ (((j : Nat) : Int) == -1) = true := fun e => by have := beq_iff_eq.1 e; omega
          have e2 : ¬ (((j : Nat) : Int) + 1 == -1) = true := fun e => by have := beq_iff_eq.1 e; omega
          rw [if_neg e1, if_neg e1, if_neg e2, show (((j : Nat) : Int) + 1).toNat = j + 1 by omega, Int.toNat_natCast]
          rfl
theorem split_data (s : ByteArray) (c : UInt8) : (Lib.splitB ⟨#[c]⟩ 0 (Lib.countB s ⟨#[c]⟩) s).map bw = splitW c (bw s) := by
  have h := Lib.splitB_data ⟨#[c]⟩ 0 (Lib.countB s ⟨#[c]⟩) s
  have e : Lib.countB s ⟨#[c]⟩ = (bw s).count c := Lib.count_one c (bw s)
  refine Eq.trans h ?_
  rw [e]
  exact splitK_eq c (bw s)
theorem join_split (c : UInt8) : ∀ l : Wd, Lib.join (splitW c l) [c] = l
  | [] => rfl
  | x :: l => by
    have ih := join_split c l
    obtain ⟨w, r, e⟩ := splitW_cons c l
    unfold splitW
    rw [e] at ih ⊢
    rw [Lib.join_cons] at ih
    by_cases h : x = c
    · subst h
      rw [if_pos rfl, Lib.join_cons]
      show ([] : Wd) ++ ([x] ++ w ++ Lib.joinTail [x] r) = _
      simp only [List.nil_append, List.append_assoc, List.cons_append]
      rw [ih]
    · rw [if_neg h]
      show Lib.join ((x :: w) :: r) [c] = _
      rw [Lib.join_cons, List.cons_append, ih]
theorem splitW_none {c : UInt8} : ∀ {w : Wd}, c ∉ w → splitW c w = [w]
  | [], _ => rfl
  | x :: l, h => by
    unfold splitW
    rw [if_neg (fun e => h (by rw [e]; exact List.mem_cons_self)), splitW_none (fun hc => h (List.mem_cons_of_mem _ hc))]
    rfl
theorem splitW_append {c : UInt8} : ∀ {w : Wd}, c ∉ w → ∀ l : Wd, splitW c (w ++ c :: l) = w :: splitW c l
  | [], _, l => splitW_hit c l
  | x :: w, h, l => by
    rw [List.cons_append, splitW_miss (fun e => h (by rw [e]; exact List.mem_cons_self)), splitW_append (fun hc => h (List.mem_cons_of_mem _ hc))]
    rfl
theorem split_join {c : UInt8} : ∀ {ws : List Wd}, ws ≠ [] → (∀ w ∈ ws, c ∉ w) → splitW c (Lib.join ws [c]) = ws
  | [], h, _ => absurd rfl h
  | [w], _, h => by rw [Lib.join_one]; exact splitW_none (h w List.mem_cons_self)
  | w :: v :: r, _, h => by
    have ih := split_join (ws := v :: r) (by simp) (fun x hx => h x (List.mem_cons_of_mem _ hx))
    rw [Lib.join_cons]
    have e : Lib.joinTail [c] (v :: r) = c :: Lib.join (v :: r) [c] := by
      rw [Lib.join_cons]
      show [c] ++ v ++ Lib.joinTail [c] r = _
      simp
    rw [e, splitW_append (h w List.mem_cons_self), ih]
theorem splitW_length (c : UInt8) (l : Wd) : (splitW c l).length ≤ l.length + 1 := by
  induction l with
  | nil => exact Nat.le_refl _
  | cons x l ih =>
    unfold splitW
    obtain ⟨w, r, e⟩ := splitW_cons c l
    by_cases h : x = c
    · rw [if_pos h, List.length_cons, List.length_cons]; omega
    · rw [if_neg h]
      rw [e] at ih ⊢
      simp only [consW, List.length_cons] at ih ⊢
      omega
theorem splitW_size (c : UInt8) : ∀ (l : Wd) (w : Wd), w ∈ splitW c l → w.length ≤ l.length
  | [], w, h => by
    obtain rfl := List.mem_singleton.1 h
    exact Nat.le_refl _
  | x :: l, w, h => by
    unfold splitW at h
    have ih := splitW_size c l
    by_cases hx : x = c
    · rw [if_pos hx] at h
      rcases List.mem_cons.1 h with rfl | h2
      · simp
      · have := ih w h2; simp; omega
    · rw [if_neg hx] at h
      obtain ⟨v, r, e⟩ := splitW_cons c l
      rw [e] at h ih
      rcases List.mem_cons.1 h with rfl | h2
      · have := ih v List.mem_cons_self; simp; omega
      · have := ih w (List.mem_cons_of_mem _ h2); simp; omega
end Go.Proofs.YtnjjchbhbicmoaaGreatDoor.Pl
