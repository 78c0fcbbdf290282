/- Plain: the reference's texts and tries: what each function answers. -/
import Derived.Test.YtcplbbflfgckbaaGreatDoorX2
import Derived.Test.YtcplbbflfgckbaaGreatDoorX3
import Derived.Test.YtcplbbflfgckbaaGreatDoorX4
import Derived.Test.YtcplbbflfgckbaaGreatDoorX6
import Derived.Test.YtcplbbflfgckbaaGreatDoorX8
import Derived.Test.YtcplbbflfgckbaaGreatDoorTries
set_option linter.unusedVariables false
set_option linter.unusedSimpArgs false
namespace Go.Proofs.YtcplbbflfgckbaaGreatDoor.Pl
open Go.RowKit Go.Proofs.YtcplbbflfgckbaaGreatDoorW.PrintWords Go.Proofs.YtcplbbflfgckbaaGreatDoorW.PrintLast Go.Proofs.YtcplbbflfgckbaaGreatDoorW.PrintMore Go.Proofs.YtcplbbflfgckbaaGreatDoor.X

theorem l1In_eq (a b c : Int) : spec_l1In.f a b c = some (decide (b ≤ a ∧ a ≤ c)) := by
  unfold spec_l1In.f
  by_cases h : a ≥ b
  · rw [if_pos h]; congr 1; rw [decide_eq_decide]; exact ⟨fun h2 => ⟨h, h2⟩, fun h2 => h2.2⟩
  · rw [if_neg h]; congr 1; symm; rw [decide_eq_false_iff_not]; exact fun h2 => h h2.1
theorem bt_bw {s : ByteArray} {i : Nat} (h : i < s.size) : bt s (i : Int) = (((bw s)[i]'(by rw [bw_size]; exact h)).toNat : Int) := by
  rw [bt_eq]
  have h2 : i < (bytesOf s).length := by rw [bytes_size]; exact h
  rw [List.getD_eq_getElem?_getD, List.getElem?_eq_getElem h2]
  simp [bytesOf, bw]
theorem u8_inj {a b : UInt8} (h : (a.toNat : Int) = (b.toNat : Int)) : a = b := UInt8.toNat.inj (by omega)
theorem u8_lt (a b : UInt8) : a < b ↔ (a.toNat : Int) < (b.toNat : Int) := by
  rw [UInt8.lt_iff_toNat_lt]; omega
/-! ### the order -/
theorem l2Before_ev (a b : ByteArray) (ha : a.size ≤ 9223372036854775806) (hb : b.size ≤ 9223372036854775806) : Ev (fun k => spec_l2Before.f k a b) (decide (bw a < bw b)) := by
  have key : ∀ d i, a.size - i = d → i ≤ a.size → i ≤ b.size → Ev (fun k => spec_l2Before.l0 k a b i) (decide ((bw a).drop i < (bw b).drop i)) := by
    intro d
    induction d with
    | zero =>
      intro i hd h1 h2
      obtain rfl : i = a.size := by omega
      refine Ev.step (fun k => by unfold spec_l2Before.l0; rfl) (ev_neg (by omega) ?_)
      refine Ev.step (fun k => by unfold spec_l2Before.j1; rfl) (ev_neg (by decide) (ev_eq ?_))
      rw [List.drop_of_length_le (by rw [bw_size]; omega)]
      rw [decide_eq_decide]
      rcases Nat.lt_or_ge a.size b.size with h3 | h3
      · rw [List.drop_eq_getElem_cons (by rw [bw_size]; exact h3)]
        exact ⟨fun _ => List.nil_lt_cons _ _, fun _ => by omega⟩
      · rw [List.drop_of_length_le (by rw [bw_size]; omega)]
        exact ⟨fun h => by omega, fun h => absurd h (lt_irr _)⟩
    | succ d ih =>
      intro i hd h1 h2
      have hi : i < a.size := by omega
      refine Ev.step (fun k => by unfold spec_l2Before.l0; rfl) (ev_pos (by omega) ?_)
      refine Ev.step (fun k => by unfold spec_l2Before.j1; rfl) ?_
      rw [List.drop_eq_getElem_cons (i := i) (l := bw a) (by rw [bw_size]; exact hi)]
      rcases Nat.lt_or_ge i b.size with h3 | h3
      · rw [List.drop_eq_getElem_cons (i := i) (l := bw b) (by rw [bw_size]; exact h3)]
        refine ev_pos (decide_eq_true (by omega)) (ev_pos (by omega) (ev_pos (by omega) (ev_pos (by omega) ?_)))
        rw [bt_bw hi, bt_bw h3]
        refine ev_ite (fun he => ?_) (fun hne => ?_)
        · rw [inc (by omega)]
          have he' := u8_inj he
          have e : decide ((bw a)[i]'(by rw [bw_size]; exact hi) :: (bw a).drop (i + 1) < (bw b)[i]'(by rw [bw_size]; exact h3) :: (bw b).drop (i + 1)) = decide ((bw a).drop (i + 1) < (bw b).drop (i + 1)) := by
            rw [decide_eq_decide, List.cons_lt_cons_iff, he']
            exact ⟨fun h => h.elim (fun h => absurd h (by rw [u8_lt]; omega)) (fun h => h.2), fun h => .inr ⟨rfl, h⟩⟩
          rw [e]
          exact ih (i + 1) (by omega) (by omega) (by omega)
        · refine ev_eq ?_
          rw [decide_eq_decide, List.cons_lt_cons_iff, u8_lt]
          exact ⟨fun h => .inl h, fun h => h.elim id (fun h => absurd (by rw [h.1]) hne)⟩
      · refine ev_neg (by rw [decide_eq_false (by omega)]; decide) (ev_eq ?_)
        rw [List.drop_of_length_le (l := bw b) (by rw [bw_size]; omega)]
        rw [decide_eq_decide]
        exact ⟨fun h => by omega, fun h => absurd h (List.not_lt_nil _)⟩
  have := key _ 0 rfl (Nat.zero_le _) (Nat.zero_le _)
  rw [List.drop_zero, List.drop_zero] at this
  exact this
/-! ### words -/
instance (w : Wd) : Decidable (okW w) := by unfold okW; exact inferInstance
theorem l2Word_ev (s : ByteArray) (hs : s.size ≤ 9223372036854775806) : Ev (fun k => spec_l2Word.f k s) (decide (okW (bw s))) := by
  have key : ∀ d i, 13 - i = d → i ≤ 13 → i ≤ s.size → Ev (fun k => spec_l2Word.l0 k s i) (decide ((bw s).length ≤ 12 ∧ ∀ b ∈ (bw s).drop i, 97 ≤ b.toNat ∧ b.toNat ≤ 122)) := by
    intro d
    induction d with
    | zero =>
      intro i hd h1 h2
      obtain rfl : i = 13 := by omega
      refine Ev.step (fun k => by unfold spec_l2Word.l0; rfl) ?_
      have fin : Ev (fun k => spec_l2Word.j1 k s ((13 : Nat) : Int) false) (decide ((bw s).length ≤ 12 ∧ ∀ b ∈ (bw s).drop 13, 97 ≤ b.toNat ∧ b.toNat ≤ 122)) := by
        refine Ev.step (fun k => by unfold spec_l2Word.j1; rfl) (ev_neg (by decide) (ev_eq ?_))
        rw [decide_eq_decide, bw_size]
        exact ⟨fun h => by omega, fun h => by omega⟩
      exact ev_ite (fun _ => by rw [decide_eq_false (by omega)]; exact fin) (fun _ => fin)
    | succ d ih =>
      intro i hd h1 h2
      refine Ev.step (fun k => by unfold spec_l2Word.l0; rfl) ?_
      rcases Nat.lt_or_ge i s.size with h3 | h3
      · refine ev_pos (by omega) ?_
        rw [decide_eq_true (show (i : Int) ≤ 12 by omega)]
        refine Ev.step (fun k => by unfold spec_l2Word.j1; rfl) (ev_pos rfl (ev_pos (by omega) (ev_pos (by omega) ?_)))
        rw [bt_bw h3]
        have e : (bw s).drop i = (bw s)[i]'(by rw [bw_size]; exact h3) :: (bw s).drop (i + 1) := List.drop_eq_getElem_cons (by rw [bw_size]; exact h3)
        refine ev_ite (fun hc => ev_eq ?_) (fun hc => ev_ite (fun hc2 => ev_eq ?_) (fun hc2 => ?_))
        · symm; rw [decide_eq_false_iff_not, e]; intro h; have := h.2 _ List.mem_cons_self; omega
        · symm; rw [decide_eq_false_iff_not, e]; intro h; have := h.2 _ List.mem_cons_self; omega
        · rw [inc (by omega)]
          have := ih (i + 1) (by omega) (by omega) (by omega)
          refine Eq.mp (congrArg _ ?_) this
          rw [decide_eq_decide, e]
          constructor
          · rintro ⟨h4, h5⟩
            refine ⟨h4, fun b hb => ?_⟩
            rcases List.mem_cons.1 hb with rfl | hb
            · omega
            · exact h5 b hb
          · rintro ⟨h4, h5⟩
            exact ⟨h4, fun b hb => h5 b (List.mem_cons_of_mem _ hb)⟩
      · refine ev_neg (by omega) ?_
        refine Ev.step (fun k => by unfold spec_l2Word.j1; rfl) (ev_neg (by decide) (ev_eq ?_))
        rw [decide_eq_decide, List.drop_of_length_le (by rw [bw_size]; omega), bw_size]
        exact ⟨fun h => ⟨by omega, by simp⟩, fun h => by omega⟩
  have := key _ 0 rfl (by omega) (Nat.zero_le _)
  rw [List.drop_zero] at this
  exact this
/-! ### a word put to its place -/
theorem l2Own_eq {l : List ByteArray} (h : l.length ≤ 1000000000) : spec_l2Own.f l = some l := by
  unfold spec_l2Own.f
  simp only [Option.bind_some, List.length_nil, List.nil_append]
  rw [if_pos (by omega)]
theorem l2Put_ev (l : List ByteArray) (w : ByteArray) (hl : l.length ≤ 4000000) (hs : ∀ x ∈ l, x.size ≤ 1000000000) (hw : w.size ≤ 1000000000) : Ev (fun k => spec_l2Put.f k l w) ((ins (l.map bw) (bw w)).map wb) := by
  have wbm : ∀ m : List ByteArray, (m.map bw).map wb = m := fun m => by rw [List.map_map]; exact (List.map_congr_left fun x _ => wb_bw x).trans (List.map_id m)
  have key : ∀ suf pre, l = pre ++ suf → Ev (fun k => spec_l2Put.l0 k l w pre.length) (pre ++ (ins (suf.map bw) (bw w)).map wb) := by
    intro suf
    induction suf with
    | nil =>
      intro pre he
      rw [List.append_nil] at he
      subst he
      refine Ev.step (fun k => by unfold spec_l2Put.l0; rfl) (ev_neg (by omega) (ev_pos (by omega) (ev_pos (by omega) ?_)))
      rw [Int.toNat_natCast, List.take_length, l2Own_eq (by omega)]
      refine ev_some (ev_some (ev_pos (by simp; omega) (ev_some (ev_some (ev_pos (by simp; omega) (ev_eq ?_))))))
      simp [ins, wb_bw]
    | cons x suf ih =>
      intro pre he
      have hlen : l.length = pre.length + (suf.length + 1) := by rw [he]; simp
      have hx : rdOf ByteArray.empty l (pre.length : Int) = x := by rw [rdOf_nat, he]; simp [List.getD]
      have hxm : x ∈ l := by rw [he]; simp
      have htake : l.take pre.length = pre := by rw [he]; simp
      have hdrop : l.drop pre.length = x :: suf := by rw [he]; simp
      have hb := l2Before_ev x w (by have := hs x hxm; omega) (by omega)
      refine Ev.step (fun k => by unfold spec_l2Put.l0; rfl) (ev_pos (by omega) (ev_pos (by omega) ?_))
      rw [hx]
      refine Ev.bind hb ?_
      rw [List.map_cons]
      unfold ins
      refine ev_ite (fun hc => ?_) (fun hc => ?_)
      · rw [if_pos (of_decide_eq_true hc), inc (by omega)]
        have := ih (pre ++ [x]) (by rw [he]; simp)
        rw [List.length_append, List.length_singleton] at this
        rw [List.map_cons, wb_bw]
        simpa using this
      · have hlt : ¬ bw x < bw w := fun h => hc (decide_eq_true h)
        rw [if_neg hlt]
        rw [toList_bw, toList_bw]
        refine ev_ite (fun hc2 => ?_) (fun hc2 => ?_)
        · rw [if_pos hc2]
          refine ev_eq ?_
          rw [List.map_cons, wb_bw, wbm, he]
        · rw [if_neg hc2]
          refine ev_pos (by omega) ?_
          rw [Int.toNat_natCast, htake, hdrop, l2Own_eq (by omega)]
          refine ev_some (ev_some (ev_pos (by simp; omega) (ev_some (ev_some (ev_pos (by simp; omega) (ev_eq ?_))))))
          rw [List.map_cons, List.map_cons, wb_bw, wb_bw, wbm]
          simp
  have := key l [] rfl
  rw [List.nil_append] at this
  exact this
/-! ### many words put to their places -/
theorem foldl_ins_SS {A : List Wd} (h : SS A) : ∀ l : List Wd, SS (l.foldl ins A)
  | [] => h
  | x :: l => by rw [List.foldl_cons]; exact foldl_ins_SS (ins_SS h x) l
theorem mem_foldl_ins : ∀ (l A : List Wd) (x : Wd), x ∈ l.foldl ins A ↔ x ∈ A ∨ x ∈ l
  | [], A, x => by simp
  | y :: l, A, x => by
    rw [List.foldl_cons, mem_foldl_ins l, mem_ins, List.mem_cons]
    constructor
    · rintro ((h | h) | h)
      · exact .inr (.inl h)
      · exact .inl h
      · exact .inr (.inr h)
    · rintro (h | h | h)
      · exact .inl (.inr h)
      · exact .inl (.inl h)
      · exact .inr h
theorem ins_length (l : List Wd) (w : Wd) : (ins l w).length ≤ l.length + 1 := by
  induction l with
  | nil => simp [ins]
  | cons x l ih =>
    unfold ins
    split
    · simp; omega
    · split <;> simp
theorem foldl_setW (l : List Wd) : l.foldl ins [] = setW l :=
  (foldl_ins_SS (by simp [SS]) l).ext (setW_SS l) (fun x => by rw [mem_foldl_ins, mem_setW]; simp)
theorem foldl_prefs (ws : List Wd) : (ws.flatMap inits).foldl ins [[]] = prefs ws :=
  (foldl_ins_SS (by simp [SS]) _).ext (prefs_SS ws) (fun x => by
    unfold prefs
    rw [mem_foldl_ins, mem_setW]
    simp)
theorem bw_map_wb (l : List Wd) : (l.map wb).map bw = l := by rw [List.map_map]; exact (List.map_congr_left fun x _ => bw_wb x).trans (List.map_id l)
/-- What the reference takes for the words of a list: themselves, sorted, each once, and whether all are words and not too many. -/
def refSet (ws : List Wd) : List Wd × Bool := if ∀ w ∈ ws, okW w then (setW ws, decide ((setW ws).length ≤ 40)) else ([], false)
theorem l2Set_ev (ws : List ByteArray) (hl : ws.length ≤ 2000000) (hs : ∀ x ∈ ws, x.size ≤ 1000000000) : Ev (fun k => spec_l2Set.f k ws) ((refSet (ws.map bw)).1.map wb, (refSet (ws.map bw)).2) := by
  have key : ∀ suf pre A, ws = pre ++ suf → A.length ≤ pre.length → (∀ x ∈ A, x.length ≤ 1000000000) → Ev (fun k => spec_l2Set.l0 k ws (A.map wb) pre.length)
      (if ∀ w ∈ suf.map bw, okW w then (((suf.map bw).foldl ins A).map wb, decide (((suf.map bw).foldl ins A).length ≤ 40)) else ([], false)) := by
    intro suf
    induction suf with
    | nil =>
      intro pre A he hA _
      rw [List.append_nil] at he
      subst he
      refine Ev.step (fun k => by unfold spec_l2Set.l0; rfl) (ev_neg (by omega) (ev_eq ?_))
      rw [if_pos (by simp)]
      simp
      omega
    | cons x suf ih =>
      intro pre A he hA hAs
      have hlen : ws.length = pre.length + (suf.length + 1) := by rw [he]; simp
      have hx : rdOf ByteArray.empty ws (pre.length : Int) = x := by rw [rdOf_nat, he]; simp [List.getD]
      have hxm : x ∈ ws := by rw [he]; simp
      refine Ev.step (fun k => by unfold spec_l2Set.l0; rfl) (ev_pos (by omega) (ev_pos (by omega) ?_))
      rw [hx]
      refine Ev.bind (l2Word_ev x (by have := hs x hxm; omega)) ?_
      refine ev_ite (fun hc => ?_) (fun hc => ?_)
      · have hp := l2Put_ev (A.map wb) x (by simp; omega) (fun y hy => by
          obtain ⟨z, hz, rfl⟩ := List.mem_map.1 hy
          rw [wb_size]; exact hAs z hz) (hs x hxm)
        rw [bw_map_wb] at hp
        refine Ev.bind hp ?_
        rw [inc (by omega)]
        have := ih (pre ++ [x]) (ins A (bw x)) (by rw [he]; simp) (by have := ins_length A (bw x); simp; omega) (fun y hy => by
          rcases (mem_ins A (bw x) y).1 hy with rfl | hy
          · rw [bw_size]; exact hs x hxm
          · exact hAs y hy)
        rw [List.length_append, List.length_singleton] at this
        refine Eq.mp (congrArg _ ?_) this
        have hx' : okW (bw x) := of_decide_eq_true hc
        rw [List.map_cons, List.foldl_cons]
        by_cases hall : ∀ w ∈ suf.map bw, okW w
        · rw [if_pos hall, if_pos (fun w hw => by
            rcases List.mem_cons.1 hw with rfl | hw
            · exact hx'
            · exact hall w hw)]
        · rw [if_neg hall, if_neg (fun h => hall fun w hw => h w (List.mem_cons_of_mem _ hw))]
      · refine ev_eq ?_
        rw [if_neg (fun h => hc (decide_eq_true (h (bw x) (by rw [List.map_cons]; exact List.mem_cons_self))))]
  have := key ws [] [] rfl (Nat.le_refl _) (by simp)
  unfold refSet
  rw [foldl_setW] at this
  refine Eq.mp (congrArg _ ?_) this
  split <;> rfl
end Go.Proofs.YtcplbbflfgckbaaGreatDoor.Pl

