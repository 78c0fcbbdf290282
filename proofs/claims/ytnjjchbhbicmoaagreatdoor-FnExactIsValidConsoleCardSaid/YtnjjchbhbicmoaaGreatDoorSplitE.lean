/- Plain: texts cut at spaces and put together, on both sides. -/
import Derived.Test.YtnjjchbhbicmoaaGreatDoorX1
import Derived.Test.YtnjjchbhbicmoaaGreatDoorX4
import Derived.Test.YtnjjchbhbicmoaaGreatDoorX11
import Derived.Test.YtnjjchbhbicmoaaGreatDoorTrieB
import Derived.Test.YtnjjchbhbicmoaaGreatDoorSplit
set_option linter.unusedVariables false
set_option linter.unusedSimpArgs false
namespace Go.Proofs.YtnjjchbhbicmoaaGreatDoor.Pl
open Go.RowKit Go.Proofs.YtnjjchbhbicmoaaGreatDoorW.PrintWords Go.Proofs.YtnjjchbhbicmoaaGreatDoorW.PrintLast Go.Proofs.YtnjjchbhbicmoaaGreatDoorW.PrintMore Go.Proofs.YtnjjchbhbicmoaaGreatDoor.X

theorem extract_mid (s : ByteArray) (a b : Nat) : s.extract a b = wb (((bw s).take b).drop a) := bw_inj (by
  rw [bw_wb]
  show (s.extract a b).data.toList = _
  rw [Lib.extract_data]
  show ((bw s).drop a).take (b - a) = _
  rw [List.drop_take])
theorem rdOf_map_wb' (ps : List Wd) (i : Nat) (h : i < ps.length) : rdOf ByteArray.empty (ps.map wb) (i : Int) = wb ps[i] := by
  rw [rdOf_nat, List.getD_eq_getElem?_getD, List.getElem?_map, List.getElem?_eq_getElem h]; rfl
theorem split_eq (s : ByteArray) (hs : s.size < 1000000000) : strings_Split.f s (⟨#[32]⟩ : ByteArray) = some ((splitW 32 (bw s)).map wb) := by
  unfold strings_Split.f
  rw [if_pos ⟨hs, rfl⟩, ← split_data s 32]
  congr 1
  rw [List.map_map]
  exact ((List.map_congr_left fun x _ => wb_bw x).trans (List.map_id _)).symm
theorem l1SplitS_ev (s : ByteArray) (hs : s.size ≤ 1000000000) : Ev (fun k => spec_l1Split.f k s 32) ((splitW 32 (bw s)).map wb) := by
  have hsz : (bw s).length = s.size := bw_size s
  have key : ∀ m i st (acc : List Wd), s.size - i = m → st ≤ i → i ≤ s.size → acc.length ≤ i → (32 : UInt8) ∉ ((bw s).take i).drop st → Ev (fun k => spec_l1Split.l0 k s 32 (acc.map wb) (st : Nat) (i : Nat)) ((acc ++ splitW 32 ((bw s).drop st)).map wb) := by
    intro m
    induction m with
    | zero =>
      intro i st acc hm hst hi ha hno
      obtain rfl : i = s.size := by omega
      rw [List.take_of_length_le (by omega)] at hno
      refine Ev.step (fun k => by unfold spec_l1Split.l0; rfl) (ev_neg (by omega) (ev_pos (by omega) (ev_pos (by omega) (ev_pos (by rw [List.length_map]; omega) (ev_eq ?_)))))
      rw [splitW_none hno, Int.toNat_natCast, extract_mid, List.take_of_length_le (by omega), List.map_append]
      rfl
    | succ m ih =>
      intro i st acc hm hst hi ha hno
      have hi' : i < (bw s).length := by omega
      have hb := bt_bw (s := s) (i := i) (by omega)
      refine Ev.step (fun k => by unfold spec_l1Split.l0; rfl) (ev_pos (by omega) (ev_pos (by omega) ?_))
      rw [hb, inc (by omega)]
      have hd := List.drop_eq_getElem_cons hi'
      have hsplit : (bw s).drop st = ((bw s).take i).drop st ++ (bw s).drop i := by
        conv => lhs; rw [← List.take_append_drop i (bw s)]
        rw [List.drop_append_of_le_length (by rw [List.length_take]; omega)]
      by_cases hc : (bw s)[i] = 32
      · rw [hc] at hd ⊢
        refine ev_pos rfl (ev_pos (by omega) (ev_pos (by omega) (ev_pos (by omega) (ev_pos (by rw [List.length_map]; omega) ?_))))
        rw [Int.toNat_natCast, Int.toNat_natCast, extract_mid]
        have := ih (i + 1) (i + 1) (acc ++ [((bw s).take i).drop st]) (by omega) (Nat.le_refl _) (by omega) (by rw [List.length_append, List.length_singleton]; omega) (by
          rw [List.drop_of_length_le (by rw [List.length_take]; omega)]; simp)
        rw [hsplit, hd, splitW_append hno]
        rw [List.append_assoc, List.singleton_append, List.map_append] at this
        rw [List.map_append] at this ⊢
        have e : (acc ++ [((bw s).take i).drop st]).map wb = acc.map wb ++ [wb (((bw s).take i).drop st)] := by rw [List.map_append]; rfl
        exact this
      · refine ev_neg (fun h => hc (UInt8.toNat.inj (by have : (32 : UInt8).toNat = 32 := rfl; omega))) ?_
        refine ih (i + 1) st acc (by omega) (by omega) (by omega) (by omega) ?_
        rw [List.take_succ_eq_append_getElem hi', List.drop_append_of_le_length (by rw [List.length_take]; omega)]
        intro hm2
        rcases List.mem_append.1 hm2 with h1 | h1
        · exact hno h1
        · exact hc (List.mem_singleton.1 h1).symm
  have := key _ 0 0 [] rfl (Nat.le_refl _) (Nat.zero_le _) (Nat.le_refl _) (by simp)
  rw [List.nil_append, List.drop_zero] at this
  exact this
theorem join_snoc (c : UInt8) : ∀ (ws : List Wd) (w : Wd), ws ≠ [] → Lib.join (ws ++ [w]) [c] = Lib.join ws [c] ++ [c] ++ w
  | [], _, h => absurd rfl h
  | x :: r, w, _ => by
    rw [List.cons_append, Lib.join_cons, Lib.join_cons]
    unfold Lib.joinTail
    rw [List.map_append, List.flatten_append]
    simp
theorem join_length (c : UInt8) (m : Nat) : ∀ ws : List Wd, (∀ w ∈ ws, w.length ≤ m) → (Lib.join ws [c]).length ≤ ws.length * (m + 1)
  | [], _ => Nat.zero_le _
  | x :: r, h => by
    rw [Lib.join_cons, List.length_append, List.length_cons]
    have hx := h x List.mem_cons_self
    have ht : (Lib.joinTail [c] r).length ≤ r.length * (m + 1) := by
      have hr : ∀ w ∈ r, w.length ≤ m := fun w hw => h w (List.mem_cons_of_mem _ hw)
      clear h hx
      unfold Lib.joinTail
      induction r with
      | nil => simp
      | cons y r ih =>
        rw [List.map_cons, List.flatten_cons, List.length_append, List.length_cons, Nat.succ_mul]
        have := hr y List.mem_cons_self
        have := ih (fun w hw => hr w (List.mem_cons_of_mem _ hw))
        simp only [List.length_append, List.length_singleton]
        omega
    rw [Nat.succ_mul]
    omega
theorem joined_ev (ws : List Wd) (hl : ws.length ≤ 1000) (hs : ∀ w ∈ ws, w.length ≤ 1000) : Ev (fun k => spec_l12Joined.f k (ws.map wb)) (wb (Lib.join ws [32])) := by
  have key : ∀ m i, ws.length - i = m → i ≤ ws.length → Ev (fun k => spec_l12Joined.l0 k (ws.map wb) (wb (Lib.join (ws.take i) [32])) (i : Nat)) (wb (Lib.join ws [32])) := by
    intro m
    induction m with
    | zero =>
      intro i hm hi
      refine Ev.step (fun k => by unfold spec_l12Joined.l0; rfl) (ev_neg (by rw [List.length_map]; omega) (ev_eq ?_))
      rw [List.take_of_length_le (by omega)]
    | succ m ih =>
      intro i hm hi
      have hi' : i < ws.length := by omega
      have hw := hs _ (List.getElem_mem hi')
      have hj := join_length 32 1000 (ws.take i) (fun w hw => hs w (List.mem_of_mem_take hw))
      rw [List.length_take] at hj
      have hj2 : (Lib.join (ws.take i) [32]).length ≤ 1001000 := by
        refine Nat.le_trans hj (Nat.le_trans (Nat.mul_le_mul_right 1001 (show min i ws.length ≤ 1000 by omega)) (by decide))
      have nx := ih (i + 1) (by omega) (by omega)
      rw [List.take_succ_eq_append_getElem hi'] at nx
      have e : rdOf ByteArray.empty (ws.map wb) (i : Int) = wb ws[i] := rdOf_map_wb' ws i hi'
      refine Ev.step (fun k => by unfold spec_l12Joined.l0; rfl) (ev_pos (by rw [List.length_map]; omega) ?_)
      rw [e, inc (by omega)]
      by_cases h0 : i = 0
      · subst h0
        rw [List.take_zero, List.nil_append, Lib.join_one] at nx
        refine ev_neg (by omega) (ev_pos (by omega) (ev_pos (by rw [wb_size, wb_size]; omega) ?_))
        rw [wb_append, List.take_zero, Lib.join_nil, List.nil_append]
        exact nx
      · rw [join_snoc 32 _ _ (by intro h; have := congrArg List.length h; rw [List.length_take, List.length_nil] at this; omega)] at nx
        refine ev_pos (by omega) (ev_pos (by rw [wb_size]; omega) (ev_pos (by omega) (ev_pos ?_ ?_)))
        · rw [show (⟨#[32]⟩ : ByteArray) = wb [32] from rfl, wb_append, wb_size, wb_size, List.length_append, List.length_singleton]; omega
        · rw [show (⟨#[32]⟩ : ByteArray) = wb [32] from rfl, wb_append, wb_append]
          exact nx
  have := key _ 0 rfl (Nat.zero_le _)
  exact this
end Go.Proofs.YtnjjchbhbicmoaaGreatDoor.Pl
