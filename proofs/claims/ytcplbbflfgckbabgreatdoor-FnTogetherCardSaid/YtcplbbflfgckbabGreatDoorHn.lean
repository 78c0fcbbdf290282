/- slices.IndexFunc, ContainsFunc, DeleteFunc at strings, by evaluation. No conditions. -/
import Derived.Test.YtcplbbflfgckbabGreatDoorTb
import Derived.Test.YtcplbbflfgckbabGreatDoorEv3
set_option linter.unusedVariables false
set_option linter.unusedSimpArgs false
namespace Go.Ab.S
open Go Go.Ab Go.Ab.Pw Go.Proofs Go.Proofs.YtcplbbflfgckbabGreatDoor
namespace H
abbrev wrap64 := RowKit.wrap64
def idx (F : ByteArray → Option Bool) (s : List ByteArray) : Nat → Int → Option Int
  | 0, _ => none
  | k + 1, i => if i < (s.length : Int) then (if 0 ≤ i then ((F (rdOf ByteArray.empty s i)).bind fun b => if b = true then some i else idx F s k (wrap64 (i + 1))) else none) else some (-1)
def del (F : ByteArray → Option Bool) : Nat → List ByteArray → Int → Int → Option (List ByteArray)
  | 0, _, _, _ => none
  | k + 1, s, i, j => if j < (s.length : Int) then (if 0 ≤ j then ((F (rdOf ByteArray.empty s j)).bind fun b => if b = false then (if 0 ≤ i then (if i < (s.length : Int) then del F k (s.set i.toNat (rdOf ByteArray.empty s j)) (wrap64 (i + 1)) (wrap64 (j + 1)) else none) else none) else del F k s i (wrap64 (j + 1))) else none)
      else (if 0 ≤ i then (if i ≤ (s.length : Int) then some ((s.take i.toNat ++ List.replicate (s.length - i.toNat) (Ty.zero .str)).take i.toNat) else none) else none)
end H
inductive G66 : List Rel → List (List TV) → List (List TV) × List (List TV) → Prop
  | mk (k a0 F r) (h : H.idx F a0 k 0 = some r) : G66 [rel58 F] [[⟨(.row 9 .str), a0⟩]] ([[⟨(.int .i64), r⟩]], [])
inductive QG66 (F : ByteArray → Option Bool) (r : Int) (a0 : Ty.den (.row 9 .str)) : Nat → Nat → St → Prop
  | l0 (k i) (h : H.idx F a0 k i = some r) : QG66 F r a0 2 k (mkSt [(0, sv1 (.dat (.row 9 .str) a0)), (1, sv1 (.fnp 0)), (7, sv1 (.dat (.int .i64) (a0.length : Int))), (8, sv1 (.dat (.int .i64) i))] [] [] [])
set_option maxHeartbeats 4000000 in
set_option maxRecDepth 100000 in
theorem og66 : GoodCon Tryz.prog ⟨66, [.val false, .fn sg58], [(false, [false])], false, G66⟩ := by
  refine fo (C := ofL []) (N := ⟨[], ofS [(2, ⟨[0, 1, 7, 8], [], [], [], [], [], []⟩)], ofS []⟩) (ts := [.tmp 4]) hT hm (by refine ofL_ok ?_; exact .nil) Tryz.func66 rfl rfl rfl rfl (by decide) rfl (by decide) ?_
  intro Rs ins out hL h; clear hL; cases h; rename_i k a0 F r h
  let Q := QG66 F r a0
  have u0 := @H.idx.eq_2
  exact go
theorem idxM_idx {F : ByteArray → Option Bool} {s : List ByteArray} (hs : s.length ≤ 9223372036854775807) : ∀ (d i : Nat) (r : Int), s.length - i = d → i ≤ s.length → G.idxM F (s.drop i) = some r → H.idx F s (d + 1) (i : Int) = some (if r = -1 then -1 else r + i) := by
  intro d
  induction d with
  | zero =>
    intro i r h1 h2 h
    have hi : i = s.length := by omega
    rw [hi, List.drop_length] at h
    cases h
    unfold H.idx
    rw [if_neg (by omega)]
    rfl
  | succ d ih =>
    intro i r h1 h2 h
    have hlt : i < s.length := by omega
    rw [List.drop_eq_getElem_cons hlt] at h
    unfold H.idx
    rw [if_pos (by omega), if_pos (by omega)]
    have hx : rdOf ByteArray.empty s (i : Int) = s[i] := by simp [rdOf, List.getD, List.getElem?_eq_getElem hlt]
    rw [hx]
    unfold G.idxM at h
    obtain ⟨b, hb, h⟩ := Option.bind_eq_some_iff.1 h
    rw [hb, Option.bind_some]
    cases b with
    | true =>
      cases h
      simp
    | false =>
      rw [if_neg (by decide)] at h ⊢
      obtain ⟨q, hq, h⟩ := Option.bind_eq_some_iff.1 h
      have := ih (i + 1) q (by omega) (by omega) hq
      have hw : H.wrap64 ((i : Int) + 1) = ((i + 1 : Nat) : Int) := by show RowKit.wrap64 _ = _; unfold RowKit.wrap64; omega
      rw [hw, this]
      cases h
      have hq0 : -1 ≤ q := by
        have key : ∀ (l : List ByteArray) (q : Int), G.idxM F l = some q → -1 ≤ q := by
          intro l
          induction l with
          | nil => intro q h; cases h; omega
          | cons x l ih =>
            intro q h
            unfold G.idxM at h
            obtain ⟨b, _, h⟩ := Option.bind_eq_some_iff.1 h
            cases b with
            | true => cases h; omega
            | false =>
              rw [if_neg (by decide)] at h
              obtain ⟨p, hp, h⟩ := Option.bind_eq_some_iff.1 h
              have := ih p hp
              cases h
              split <;> omega
        exact key _ _ hq
      refine congrArg some ?_
      by_cases e : q = -1
      · rw [if_pos e, if_pos e, if_pos rfl]
      · rw [if_neg e, if_neg e, if_neg (by omega)]
        omega
inductive F66 : List Rel → List (List TV) → List (List TV) × List (List TV) → Prop
  | mk (a0 F r) (h : G.idxM F a0 = some r) : F66 [rel58 F] [[⟨(.row 9 .str), a0⟩]] ([[⟨(.int .i64), r⟩]], [])
abbrev c66 : Con := ⟨66, [.val false, .fn sg58], [(false, [false])], false, F66⟩
theorem o66 : GoodCon Tryz.prog c66 := og66.less fun Rs ins out hL h => by
  cases h
  rename_i a0 F r h
  have hl : a0.length ≤ 9223372036854775807 := hL _ List.mem_cons_self _ List.mem_cons_self
  have := idxM_idx hl a0.length 0 r (by omega) (by omega) h
  refine .mk _ a0 F r (this.trans ?_)
  refine congrArg some ?_
  split
  · rename_i e; exact e.symm
  · exact Int.add_zero r
/-- ContainsFunc. -/
inductive F40 : List Rel → List (List TV) → List (List TV) × List (List TV) → Prop
  | mk (a0 F r) (h : G.anyM F a0 = some r) : F40 [rel58 F] [[⟨(.row 9 .str), a0⟩]] ([[⟨.bool, r⟩]], [])
abbrev c40 : Con := ⟨40, [.val false, .fn sg58], [(false, [false])], false, F40⟩
inductive G40 : List Rel → List (List TV) → List (List TV) × List (List TV) → Prop
  | mk (a0 F r) (h : (G.idxM F a0).bind (fun i => some (decide (i ≥ 0))) = some r) : G40 [rel58 F] [[⟨(.row 9 .str), a0⟩]] ([[⟨.bool, r⟩]], [])
set_option maxHeartbeats 4000000 in
set_option maxRecDepth 100000 in
theorem og40 : GoodCon Tryz.prog ⟨40, [.val false, .fn sg58], [(false, [false])], false, G40⟩ := by
  refine fo (C := ofL [c66]) (N := ⟨[], ofS [], ofS []⟩) (ts := [.tmp 4]) hT hm (by refine ofL_ok ?_; refine .cons o66 ?_; exact .nil) Tryz.func40 rfl rfl rfl rfl (by decide) rfl (by decide) ?_
  intro Rs ins out hL h; clear hL; cases h; rename_i a0 F r h
  exact go
theorem anyM_idx {F : ByteArray → Option Bool} : ∀ {l : List ByteArray} {r : Bool}, G.anyM F l = some r → ∃ i, G.idxM F l = some i ∧ decide (i ≥ 0) = r ∧ -1 ≤ i
  | [], r, h => by cases h; exact ⟨-1, rfl, rfl, by omega⟩
  | x :: l, r, h => by
    unfold G.anyM at h
    obtain ⟨b, hb, h⟩ := Option.bind_eq_some_iff.1 h
    unfold G.idxM
    rw [hb, Option.bind_some]
    cases b with
    | true => cases h; exact ⟨0, rfl, rfl, by omega⟩
    | false =>
      rw [if_neg (by decide)] at h ⊢
      obtain ⟨i, h1, h2, h3⟩ := anyM_idx h
      rw [h1, Option.bind_some]
      refine ⟨_, rfl, ?_, by split <;> omega⟩
      rw [← h2]
      by_cases e : i = -1
      · rw [if_pos e, e]
      · rw [if_neg e]
        have : (0 ≤ i + 1) = (0 ≤ i) := by simp only [eq_iff_iff]; omega
        simp only [ge_iff_le, this]
theorem o40 : GoodCon Tryz.prog c40 := og40.less fun Rs ins out hL h => by
  cases h
  rename_i a0 F r h
  obtain ⟨i, h1, h2, _⟩ := anyM_idx h
  exact .mk a0 F r (by rw [h1, Option.bind_some, h2])
/-- DeleteFunc. -/
def delF (F : ByteArray → Option Bool) (k : Nat) (s : List ByteArray) : Option (List ByteArray) := (G.idxM F s).bind fun i => if i = -1 then some s else H.del F k s i (H.wrap64 (i + 1))
inductive G62 : List Rel → List (List TV) → List (List TV) × List (List TV) → Prop
  | mk (k a0 F r) (h : delF F k a0 = some r) : G62 [rel58 F] [[⟨(.row 9 .str), a0⟩]] ([[⟨(.row 9 .str), r⟩]], [[]])
inductive QG62 (F : ByteArray → Option Bool) (r : List ByteArray) : Nat → Nat → St → Prop
  | l0 (k s i j) (h : H.del F k s i j = some r) : QG62 F r 5 k (mkSt [(0, sv1 (.own 42 0)), (1, sv1 (.fnp 0)), (5, sv1 (.dat (.int .i64) i)), (6, sv1 (.dat (.int .i64) j))] [] [(42, ⟨9, .str, s, 0⟩)] [])
set_option maxHeartbeats 4000000 in
set_option maxRecDepth 100000 in
theorem og62 : GoodCon Tryz.prog ⟨62, [.own 9 .str, .fn sg58], [(false, [true])], false, G62⟩ := by
  refine fo (C := ofL [c66]) (N := ⟨[], ofS [(5, ⟨[0, 1, 5, 6], [(0, 42)], [], [], [], [], []⟩)], ofS []⟩) (ts := [.tmp 4]) hT hm (by refine ofL_ok ?_; refine .cons o66 ?_; exact .nil) Tryz.func62 rfl rfl rfl rfl (by decide) rfl (by decide) ?_
  intro Rs ins out hL h; clear hL; cases h; rename_i k a0 F r h
  let Q := QG62 F r
  have u0 := @H.del.eq_2
  unfold delF at h
  exact go
theorem drop_idx {F : ByteArray → Option Bool} : ∀ {l r : List ByteArray}, G.dropM F l = some r → ∃ i, G.idxM F l = some i ∧ ((i = -1 ∧ r = l) ∨ ∃ n : Nat, i = n ∧ n < l.length ∧ ∃ D, G.dropM F (l.drop (n + 1)) = some D ∧ r = l.take n ++ D)
  | [], r, h => by cases h; exact ⟨-1, rfl, .inl ⟨rfl, rfl⟩⟩
  | x :: l, r, h => by
    unfold G.dropM at h
    obtain ⟨b, hb, h⟩ := Option.bind_eq_some_iff.1 h
    obtain ⟨q, hq, h⟩ := Option.bind_eq_some_iff.1 h
    unfold G.idxM
    rw [hb, Option.bind_some]
    cases b with
    | true =>
      cases h
      exact ⟨0, rfl, .inr ⟨0, rfl, by simp, q, hq, by simp⟩⟩
    | false =>
      cases h
      obtain ⟨i, h1, h2⟩ := drop_idx hq
      rw [if_neg (by decide), h1, Option.bind_some]
      refine ⟨_, rfl, ?_⟩
      rcases h2 with ⟨rfl, rfl⟩ | ⟨n, rfl, h3, D, h4, rfl⟩
      · exact .inl ⟨rfl, rfl⟩
      · refine .inr ⟨n + 1, by rw [if_neg (by omega)]; omega, by simp; omega, D, h4, rfl⟩
theorem del_drop {F : ByteArray → Option Bool} : ∀ (d : Nat) {s : List ByteArray} {i j : Nat} {D : List ByteArray}, s.length ≤ 9223372036854775807 → s.length - j = d → i ≤ j → j ≤ s.length → G.dropM F (s.drop j) = some D → H.del F (d + 1) s i j = some (s.take i ++ D) := by
  intro d
  induction d with
  | zero =>
    intro s i j D hs h1 h2 h3 h
    obtain rfl : j = s.length := by omega
    rw [List.drop_length] at h
    cases h
    unfold H.del
    rw [if_neg (by omega), if_pos (by omega), if_pos (by omega), Int.toNat_natCast, List.take_left' (by rw [List.length_take]; omega), List.append_nil]
  | succ d ih =>
    intro s i j D hs h1 h2 h3 h
    have hlt : j < s.length := by omega
    rw [List.drop_eq_getElem_cons hlt] at h
    unfold H.del
    rw [if_pos (by omega), if_pos (by omega)]
    have hx : rdOf ByteArray.empty s (j : Int) = s[j] := by simp [rdOf, List.getD, List.getElem?_eq_getElem hlt]
    have hw : ∀ n : Nat, n < s.length → H.wrap64 ((n : Int) + 1) = ((n + 1 : Nat) : Int) := fun n hn => by show RowKit.wrap64 _ = _; unfold RowKit.wrap64; omega
    rw [hx]
    unfold G.dropM at h
    obtain ⟨b, hb, h⟩ := Option.bind_eq_some_iff.1 h
    obtain ⟨q, hq, h⟩ := Option.bind_eq_some_iff.1 h
    rw [hb, Option.bind_some]
    cases b with
    | true =>
      cases h
      rw [if_neg (by decide), hw j hlt]
      exact ih hs (by omega) (by omega) (by omega) hq
    | false =>
      cases h
      rw [if_pos (by decide), if_pos (by omega), if_pos (by omega), hw j hlt, hw i (by omega), Int.toNat_natCast]
      have := ih (s := s.set i s[j]) (i := i + 1) (j := j + 1) (D := q) (by rw [List.length_set]; exact hs) (by rw [List.length_set]; omega) (by omega) (by rw [List.length_set]; omega) (by rw [List.drop_set_of_lt (by omega)]; exact hq)
      rw [this]
      refine congrArg some ?_
      rw [List.take_add_one, List.take_set_of_le (Nat.le_refl _), List.append_assoc]
      congr 1
      simp only [List.getElem?_set_self (show i < s.length by omega), Option.toList_some, List.singleton_append, Bool.false_eq_true, if_false]
inductive F62 : List Rel → List (List TV) → List (List TV) × List (List TV) → Prop
  | mk (a0 F r) (h : X.slices_DeleteFunc_string_string.f a0 F = some r) : F62 [rel58 F] [[⟨(.row 9 .str), a0⟩]] ([[⟨(.row 9 .str), r⟩]], [[]])
abbrev c62 : Con := ⟨62, [.own 9 .str, .fn sg58], [(false, [true])], false, F62⟩
theorem o62 : GoodCon Tryz.prog c62 := og62.less fun Rs ins out hL h => by
  cases h
  rename_i a0 F r h
  have hl : a0.length ≤ 9223372036854775807 := hL _ List.mem_cons_self _ List.mem_cons_self
  have h' : (if 1000000000 < a0.length then none else G.dropM F a0) = some r := h
  split at h'
  · cases h'
  obtain ⟨i, h1, h2⟩ := drop_idx h'
  rcases h2 with ⟨rfl, rfl⟩ | ⟨n, rfl, h3, D, h4, rfl⟩
  · exact .mk 0 r F r (by unfold delF; rw [h1, Option.bind_some, if_pos rfl])
  · have hw : H.wrap64 ((n : Int) + 1) = ((n + 1 : Nat) : Int) := by show RowKit.wrap64 _ = _; unfold RowKit.wrap64; omega
    refine .mk (a0.length - (n + 1) + 1) a0 F _ ?_
    unfold delF
    rw [h1, Option.bind_some, if_neg (by omega), hw]
    exact del_drop _ hl rfl (by omega) (by omega) h4
end Go.Ab.S
