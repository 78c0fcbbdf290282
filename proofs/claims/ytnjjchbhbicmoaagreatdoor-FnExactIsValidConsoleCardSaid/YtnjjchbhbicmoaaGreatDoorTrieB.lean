/- Plain: the reference's tries: prefixes, words, validity. -/

import Derived.Test.YtnjjchbhbicmoaaGreatDoorTrieA
set_option linter.unusedVariables false
set_option linter.unusedSimpArgs false
namespace Go.Proofs.YtnjjchbhbicmoaaGreatDoor.Pl
open Go.RowKit Go.Proofs.YtnjjchbhbicmoaaGreatDoorW.PrintWords Go.Proofs.YtnjjchbhbicmoaaGreatDoorW.PrintLast Go.Proofs.YtnjjchbhbicmoaaGreatDoorW.PrintMore Go.Proofs.YtnjjchbhbicmoaaGreatDoor.X

theorem rd_nd {t : List ND} {i : Nat} (h : i < t.length) : rd_T68 t (i : Int) = t[i] := by
  show t.getD (i : Int).toNat _ = _
  rw [Int.toNat_natCast, List.getD_eq_getElem?_getD, List.getElem?_eq_getElem h, Option.getD_some]
theorem letter_str {c : Int} (h1 : 0 ≤ c) (h2 : c ≤ 25) : strOfNums [(wrap64 (97 + c)) % 256] = wb [letterB c] := by
  unfold strOfNums wb letterB
  rw [w64 (by omega) (by omega), Int.emod_eq_of_lt (by omega) (by omega)]
  simp only [List.map_cons, List.map_nil]
  rw [show (97 + c).toNat = 97 + c.toNat by omega]
theorem strOfNums_size1 (x : Int) : (strOfNums [x]).size = 1 := rfl
theorem wb_append (a b : Wd) : wb a ++ wb b = wb (a ++ b) := bw_inj (by simp [bw, wb, ByteArray.data_append])
theorem bw_append (a b : ByteArray) : bw (a ++ b) = bw a ++ bw b := by simp [bw, ByteArray.data_append]
/-! ### the trie of words -/
theorem mem_map_bw {l : List ByteArray} {x : ByteArray} : bw x ∈ l.map bw ↔ x ∈ l := by
  rw [List.mem_map]
  exact ⟨fun ⟨y, hy, h⟩ => bw_inj h ▸ hy, fun h => ⟨x, h, rfl⟩⟩
theorem l2Has_ev (l : List ByteArray) (x : ByteArray) (hl : l.length ≤ 4000000) : Ev (fun k => spec_l2Has.f k l x) (decide (bw x ∈ l.map bw)) := by
  have key : ∀ suf pre, l = pre ++ suf → Ev (fun k => spec_l2Has.l0 k l x pre.length) (decide (bw x ∈ suf.map bw)) := by
    intro suf
    induction suf with
    | nil =>
      intro pre he
      rw [List.append_nil] at he
      subst he
      exact Ev.step (fun k => by unfold spec_l2Has.l0; rfl) (ev_neg (by omega) (ev_eq (by simp)))
    | cons y suf ih =>
      intro pre he
      have hlen : l.length = pre.length + (suf.length + 1) := by rw [he]; simp
      have hx : rdOf ByteArray.empty l (pre.length : Int) = y := by rw [rdOf_nat, he]; simp [List.getD]
      refine Ev.step (fun k => by unfold spec_l2Has.l0; rfl) (ev_pos (by omega) (ev_pos (by omega) ?_))
      rw [hx, toList_bw, toList_bw]
      refine ev_ite (fun hc => ev_eq ?_) (fun hc => ?_)
      · symm; rw [decide_eq_true_eq, List.map_cons, hc]; exact List.mem_cons_self
      · rw [inc (by omega)]
        have := ih (pre ++ [y]) (by rw [he]; simp)
        rw [List.length_append, List.length_singleton] at this
        refine Eq.mp (congrArg _ ?_) this
        rw [decide_eq_decide, List.map_cons, List.mem_cons]
        exact ⟨.inr, fun h => h.elim (fun h => absurd h.symm hc) id⟩
  exact key l [] rfl
theorem l2Place_ev (l : List ByteArray) (x : ByteArray) (hl : l.length ≤ 1000000) (hx : bw x ∈ l.map bw) : Ev (fun k => spec_l2Place.f k l x) (((l.map bw).idxOf (bw x) : Nat) : Int) := by
  have key : ∀ suf pre, l = pre ++ suf → bw x ∈ suf.map bw → Ev (fun k => spec_l2Place.l0 k l x pre.length) ((pre.length + (suf.map bw).idxOf (bw x) : Nat) : Int) := by
    intro suf
    induction suf with
    | nil => intro pre _ h; simp at h
    | cons y suf ih =>
      intro pre he hm
      have hlen : l.length = pre.length + (suf.length + 1) := by rw [he]; simp
      have hy : rdOf ByteArray.empty l (pre.length : Int) = y := by rw [rdOf_nat, he]; simp [List.getD]
      refine Ev.step (fun k => by unfold spec_l2Place.l0; rfl) (ev_pos (by omega) (ev_pos (by omega) ?_))
      rw [hy, toList_bw, toList_bw, List.map_cons, List.idxOf_cons]
      refine ev_ite (fun hc => ev_eq ?_) (fun hc => ?_)
      · rw [hc]; simp
      · rw [inc (by omega)]
        have hne : (bw y == bw x) = false := by simpa using hc
        rw [hne]
        have := ih (pre ++ [y]) (by rw [he]; simp) (by
          rw [List.map_cons, List.mem_cons] at hm
          exact hm.elim (fun h => absurd h.symm hc) id)
        rw [List.length_append, List.length_singleton] at this
        refine Eq.mp (congrArg _ ?_) this
        simp only [cond_false]
        omega
  have := key l [] rfl hx
  rw [List.length_nil, Nat.zero_add] at this
  exact this
theorem extract_wb (w : Wd) (n : Nat) : (wb w).extract 0 n = wb (w.take n) := bw_inj (by
  show ((wb w).extract 0 n).data.toList = _
  rw [Lib.extract_data, bw_wb]; simp [wb])
theorem last_ltr {w : Wd} (h : w ≠ []) : (bt (wb w) ((w.length - 1 : Nat) : Int) - 97) % 256 = ltr w := by
  have hl := List.length_pos_iff.2 h
  rw [bt_bw (by rw [wb_size]; omega)]
  unfold ltr
  rw [List.getLast?_eq_getElem?]
  have e : (bw (wb w))[w.length - 1]'(by rw [bw_wb]; omega) = w[w.length - 1] := by simp only [bw_wb]
  rw [e, List.getElem?_eq_getElem (by omega), Option.getD_some]
end Go.Proofs.YtnjjchbhbicmoaaGreatDoor.Pl
