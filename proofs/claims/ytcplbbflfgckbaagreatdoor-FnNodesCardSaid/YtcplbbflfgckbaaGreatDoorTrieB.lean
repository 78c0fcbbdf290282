/- Plain: the reference's tries: prefixes, words, validity. -/
import Derived.Test.YtcplbbflfgckbaaGreatDoorX8
import Derived.Test.YtcplbbflfgckbaaGreatDoorX9
import Derived.Test.YtcplbbflfgckbaaGreatDoorX19
import Derived.Test.YtcplbbflfgckbaaGreatDoorTrieA
set_option linter.unusedVariables false
set_option linter.unusedSimpArgs false
namespace Go.Proofs.YtcplbbflfgckbaaGreatDoor.Pl
open Go.RowKit Go.Proofs.YtcplbbflfgckbaaGreatDoorW.PrintWords Go.Proofs.YtcplbbflfgckbaaGreatDoorW.PrintLast Go.Proofs.YtcplbbflfgckbaaGreatDoorW.PrintMore Go.Proofs.YtcplbbflfgckbaaGreatDoor.X

theorem rd_nd {t : List ND} {i : Nat} (h : i < t.length) : rd_T74 t (i : Int) = t[i] := by
  show t.getD (i : Int).toNat _ = _
  rw [Int.toNat_natCast, List.getD_eq_getElem?_getD, List.getElem?_eq_getElem h, Option.getD_some]
theorem letter_str {c : Int} (h1 : 0 ≤ c) (h2 : c ≤ 25) : strOfNums [(wrap64 (97 + c)) % 256] = wb [letterB c] := by
  unfold strOfNums wb letterB
  rw [w64 (by omega) (by omega), Int.emod_eq_of_lt (by omega) (by omega)]
  simp only [List.map_cons, List.map_nil]
  rw [show (97 + c).toNat = 97 + c.toNat by omega]
theorem wb_append (a b : Wd) : wb a ++ wb b = wb (a ++ b) := bw_inj (by simp [bw, wb, ByteArray.data_append])
theorem bw_append (a b : ByteArray) : bw (a ++ b) = bw a ++ bw b := by simp [bw, ByteArray.data_append]
theorem l2Prefix_loop (t : List ND) (ht : t.length ≤ 2000000) : ∀ i, i < t.length → ∀ s : ByteArray, s.size ≤ 13 → ∃ r, Ev (fun k => spec_l2Prefix.l0 k i s t) r ∧ r.size ≤ 13 ∧ ∀ P, prefP t = some P → (P.getD i []).length + s.size ≤ 12 → r = wb (P.getD i [] ++ bw s) := by
  have atZero : ∀ s : ByteArray, s.size ≤ 13 → Ev (fun k => spec_l2Prefix.l0 k ((0 : Nat) : Int) s t) s := by
    intro s hs
    refine Ev.step (fun k => by unfold spec_l2Prefix.l0; rfl) (ev_neg (by omega) ?_)
    exact Ev.step (fun k => by unfold spec_l2Prefix.j1; rfl) (ev_neg (by decide) (ev_pos (by omega) (ev_eq rfl)))
  intro i
  induction i using Nat.strongRecOn with
  | _ i ih =>
    intro hi s hs
    rcases Nat.eq_zero_or_pos i with rfl | h0
    · refine ⟨s, atZero s hs, hs, fun P hP _ => ?_⟩
      rw [(prefP_spec hP).2.2.2.1, List.nil_append, wb_bw]
    · have one : ∀ r : ByteArray, (⟨#[63]⟩ : ByteArray) = r → r.size ≤ 13 := fun r h => by rw [← h]; decide
      by_cases hs2 : s.size ≤ 12
      case neg =>
        refine ⟨⟨#[63]⟩, ?_, by decide, fun P _ hz => by omega⟩
        refine Ev.step (fun k => by unfold spec_l2Prefix.l0; rfl) (ev_pos (by omega) ?_)
        rw [decide_eq_false (by omega)]
        exact Ev.step (fun k => by unfold spec_l2Prefix.j1; rfl) (ev_neg (by decide) (ev_neg (by omega) (ev_eq rfl)))
      have begin_ : ∀ (r : ByteArray), Ev (fun k => if decide (0 ≤ t[i].f0 ∧ t[i].f0 ≤ 25) = true then (if (t[i].f1) ≥ (i : Int) then (some (⟨#[63]⟩ : ByteArray)) else ((some (([(wrap64 (97 + (t[i].f0))) % 256] : List Int) : List Int)).bind fun y107 => (if (strOfNums y107).size + s.size ≤ 9223372036854775807 then (spec_l2Prefix.l0 k (t[i].f1) ((strOfNums y107) ++ s) t) else (none)))) else (some (⟨#[63]⟩ : ByteArray))) r → Ev (fun k => spec_l2Prefix.l0 k i s t) r := by
        intro r hr
        refine Ev.step (fun k => by unfold spec_l2Prefix.l0; rfl) (ev_pos (by omega) ?_)
        rw [decide_eq_true (show (s.size : Int) ≤ 12 by omega)]
        refine Ev.step (fun k => by unfold spec_l2Prefix.j1; rfl) (ev_pos rfl (ev_pos (by omega) (ev_pos (by omega) ?_)))
        rw [rd_nd hi, l1In_eq]
        exact ev_some hr
      by_cases hf : 0 ≤ t[i].f0 ∧ t[i].f0 ≤ 25
      case neg =>
        refine ⟨⟨#[63]⟩, begin_ _ (ev_neg (by simpa using hf) (ev_eq rfl)), by decide, fun P hP _ => ?_⟩
        have := (prefP_spec hP).2.2.2.2 i h0 hi
        exact absurd ⟨this.2.2.1, this.2.2.2.1⟩ hf
      by_cases hp : t[i].f1 < (i : Int)
      case neg =>
        refine ⟨⟨#[63]⟩, begin_ _ (ev_pos (decide_eq_true hf) (ev_pos (by omega) (ev_eq rfl))), by decide, fun P hP _ => ?_⟩
        have := (prefP_spec hP).2.2.2.2 i h0 hi
        exact absurd this.2.1 hp
      have hls := letter_str hf.1 hf.2
      have hz : (wb [letterB t[i].f0] ++ s).size ≤ 13 := by rw [ByteArray.size_append, wb_size]; simp; omega
      by_cases hn : 0 ≤ t[i].f1
      case neg =>
        refine ⟨⟨#[63]⟩, begin_ _ (ev_pos (decide_eq_true hf) (ev_neg (by omega) (ev_some ?_))), by decide, fun P hP _ => ?_⟩
        · rw [hls]
          refine ev_pos (by rw [wb_size]; simp; omega) ?_
          refine Ev.step (fun k => by unfold spec_l2Prefix.l0; rfl) (ev_neg (by omega) ?_)
          exact Ev.step (fun k => by unfold spec_l2Prefix.j1; rfl) (ev_neg (by decide) (ev_neg (by omega) (ev_eq rfl)))
        · have := (prefP_spec hP).2.2.2.2 i h0 hi
          exact absurd this.1 hn
      obtain ⟨r, hr, hr2, hr3⟩ := ih t[i].f1.toNat (by omega) (by omega) (wb [letterB t[i].f0] ++ s) hz
      refine ⟨r, begin_ _ (ev_pos (decide_eq_true hf) (ev_neg (by omega) (ev_some ?_))), hr2, fun P hP hlen => ?_⟩
      · rw [hls]
        refine ev_pos (by rw [wb_size]; simp; omega) ?_
        rw [show ((t[i].f1.toNat : Nat) : Int) = t[i].f1 by omega] at hr
        exact hr
      · have := (prefP_spec hP).2.2.2.2 i h0 hi
        rw [this.2.2.2.2] at hlen ⊢
        rw [hr3 P hP (by rw [List.length_append, List.length_singleton] at hlen; rw [ByteArray.size_append, wb_size, List.length_singleton]; omega)]
        rw [bw_append, bw_wb, List.append_assoc]
theorem l2Prefix_ev (t : List ND) (ht : t.length ≤ 2000000) (i : Nat) (hi : i < t.length) : ∃ r, Ev (fun k => spec_l2Prefix.f k t i) r ∧ r.size ≤ 13 ∧ ∀ P, TOk t P → r = wb (P.getD i []) := by
  obtain ⟨r, h1, h2, h3⟩ := l2Prefix_loop t ht i hi ⟨#[]⟩ (by decide)
  refine ⟨r, h1, h2, fun P hP => ?_⟩
  have hl := (prefP_spec hP.pre).2.2.1
  have := hP.short _ (getD_mem (l := P) (i := i) (by omega) [])
  rw [h3 P hP.pre (by show _ + 0 ≤ 12; omega)]
  show wb (P.getD i [] ++ []) = _
  rw [List.append_nil]
theorem l2Prefix_ok {t : List ND} {P : List Wd} (h : TOk t P) (i : Nat) (hi : i < t.length) : Ev (fun k => spec_l2Prefix.f k t i) (wb (P.getD i [])) := by
  obtain ⟨r, h1, _, h3⟩ := l2Prefix_ev t (by have := (prefP_spec h.pre).2.1; omega) i hi
  rwa [h3 P h] at h1
theorem l2Words_ev (t : List ND) (ht : t.length ≤ 100000) : ∃ ws, Ev (fun k => spec_l2Words.f k t) ws ∧ ws.length ≤ t.length ∧ (∀ w ∈ ws, w.size ≤ 13) ∧ ∀ P, TOk t P → ws = (wordsP t P).map wb := by
  have hR : ∃ R : Nat → ByteArray, ∀ i, i < t.length → Ev (fun k => spec_l2Prefix.f k t i) (R i) ∧ (R i).size ≤ 13 ∧ ∀ P, TOk t P → R i = wb (P.getD i []) := by
    have : ∀ i, ∃ r : ByteArray, i < t.length → Ev (fun k => spec_l2Prefix.f k t i) r ∧ r.size ≤ 13 ∧ ∀ P, TOk t P → r = wb (P.getD i []) := fun i => by
      by_cases h : i < t.length
      · obtain ⟨r, h1⟩ := l2Prefix_ev t (by omega) i h
        exact ⟨r, fun _ => h1⟩
      · exact ⟨⟨#[]⟩, fun h2 => absurd h2 h⟩
    exact ⟨fun i => Classical.choose (this i), fun i => Classical.choose_spec (this i)⟩
  obtain ⟨R, hR⟩ := hR
  refine ⟨((List.range t.length).filter fun i => (t.getD i zND).f2).map R, ?_, ?_, ?_, ?_⟩
  · have key : ∀ d i, t.length - i = d → i ≤ t.length → ∀ acc : List ByteArray, acc.length ≤ i → Ev (fun k => spec_l2Words.l0 k acc i t) (acc ++ (((List.range t.length).drop i).filter fun i => (t.getD i zND).f2).map R) := by
      intro d
      induction d with
      | zero =>
        intro i hd hi acc ha
        refine Ev.step (fun k => by unfold spec_l2Words.l0; rfl) (ev_neg (by omega) (ev_eq ?_))
        rw [List.drop_of_length_le (by simp; omega)]
        simp
      | succ d ih =>
        intro i hd hi acc ha
        have hi' : i < t.length := by omega
        refine Ev.step (fun k => by unfold spec_l2Words.l0; rfl) (ev_pos (by omega) (ev_pos (by omega) ?_))
        have e : (List.range t.length).drop i = i :: (List.range t.length).drop (i + 1) := by
          rw [List.drop_eq_getElem_cons (by simpa using hi')]; simp
        have eg : (t.getD i zND).f2 = t[i].f2 := by rw [List.getD_eq_getElem?_getD, List.getElem?_eq_getElem hi', Option.getD_some]
        rw [rd_nd hi', e, List.filter_cons, eg]
        refine ev_ite (fun hc => ?_) (fun hc => ?_)
        · refine Ev.bind (hR i hi').1 (ev_pos (by omega) ?_)
          rw [inc (by omega), if_pos hc]
          have := ih (i + 1) (by omega) (by omega) (acc ++ [R i]) (by simp; omega)
          simpa using this
        · rw [inc (by omega), if_neg hc]
          exact ih (i + 1) (by omega) (by omega) acc (by omega)
    have := key _ 0 rfl (Nat.zero_le _) [] (Nat.le_refl _)
    rw [List.nil_append, List.drop_zero] at this
    exact this
  · rw [List.length_map]
    exact Nat.le_trans (List.length_filter_le _ _) (by simp)
  · intro w hw
    obtain ⟨i, hi, rfl⟩ := List.mem_map.1 hw
    exact (hR i (List.mem_range.1 (List.mem_filter.1 hi).1)).2.1
  · intro P hP
    unfold wordsP
    rw [List.map_map]
    exact List.map_congr_left fun i hi => (hR i (List.mem_range.1 (List.mem_filter.1 hi).1)).2.2 P hP
/-! ### the trie of words -/
theorem l2Has_ev (l : List ByteArray) (x : ByteArray) (hl : l.length ≤ 4000000) : Ev (fun k => spec_l2Has.f k l x) (decide (bw x ∈ l.map bw)) := by
  have key : ∀ suf pre, l = pre ++ suf → Ev (fun k => spec_l2Has.l0 k l x pre.length) (decide (bw x ∈ suf.map bw)) := by
    intro suf
    induction suf with
    | nil =>
      intro pre he
      rw [List.append_nil] at he
      subst he
      exact Ev.step (fun k => by unfold spec_l2Has.l0; rfl) (ev_neg (by omega) (ev_eq (by simp)))
    | cons y suf ih =>
      intro pre he
      have hlen : l.length = pre.length + (suf.length + 1) := by rw [he]; simp
      have hx : rdOf ByteArray.empty l (pre.length : Int) = y := by rw [rdOf_nat, he]; simp [List.getD]
      refine Ev.step (fun k => by unfold spec_l2Has.l0; rfl) (ev_pos (by omega) (ev_pos (by omega) ?_))
      rw [hx, toList_bw, toList_bw]
      refine ev_ite (fun hc => ev_eq ?_) (fun hc => ?_)
      · symm; rw [decide_eq_true_eq, List.map_cons, hc]; exact List.mem_cons_self
      · rw [inc (by omega)]
        have := ih (pre ++ [y]) (by rw [he]; simp)
        rw [List.length_append, List.length_singleton] at this
        refine Eq.mp (congrArg _ ?_) this
        rw [decide_eq_decide, List.map_cons, List.mem_cons]
        exact ⟨.inr, fun h => h.elim (fun h => absurd h.symm hc) id⟩
  exact key l [] rfl
theorem l2Place_ev (l : List ByteArray) (x : ByteArray) (hl : l.length ≤ 1000000) (hx : bw x ∈ l.map bw) : Ev (fun k => spec_l2Place.f k l x) (((l.map bw).idxOf (bw x) : Nat) : Int) := by
  have key : ∀ suf pre, l = pre ++ suf → bw x ∈ suf.map bw → Ev (fun k => spec_l2Place.l0 k l x pre.length) ((pre.length + (suf.map bw).idxOf (bw x) : Nat) : Int) := by
    intro suf
    induction suf with
    | nil => intro pre _ h; simp at h
    | cons y suf ih =>
      intro pre he hm
      have hlen : l.length = pre.length + (suf.length + 1) := by rw [he]; simp
      have hy : rdOf ByteArray.empty l (pre.length : Int) = y := by rw [rdOf_nat, he]; simp [List.getD]
      refine Ev.step (fun k => by unfold spec_l2Place.l0; rfl) (ev_pos (by omega) (ev_pos (by omega) ?_))
      rw [hy, toList_bw, toList_bw, List.map_cons, List.idxOf_cons]
      refine ev_ite (fun hc => ev_eq ?_) (fun hc => ?_)
      · rw [hc]; simp
      · rw [inc (by omega)]
        have hne : (bw y == bw x) = false := by simpa using hc
        rw [hne]
        have := ih (pre ++ [y]) (by rw [he]; simp) (by
          rw [List.map_cons, List.mem_cons] at hm
          exact hm.elim (fun h => absurd h.symm hc) id)
        rw [List.length_append, List.length_singleton] at this
        refine Eq.mp (congrArg _ ?_) this
        simp only [cond_false]
        omega
  have := key l [] rfl hx
  rw [List.length_nil, Nat.zero_add] at this
  exact this
theorem extract_wb (w : Wd) (n : Nat) : (wb w).extract 0 n = wb (w.take n) := bw_inj (by
  show ((wb w).extract 0 n).data.toList = _
  rw [Lib.extract_data, bw_wb]; simp [wb])
theorem last_ltr {w : Wd} (h : w ≠ []) : (bt (wb w) ((w.length - 1 : Nat) : Int) - 97) % 256 = ltr w := by
  have hl := List.length_pos_iff.2 h
  rw [bt_bw (by rw [wb_size]; omega)]
  unfold ltr
  rw [List.getLast?_eq_getElem?]
  have e : (bw (wb w))[w.length - 1]'(by rw [bw_wb]; omega) = w[w.length - 1] := by simp only [bw_wb]
  rw [e, List.getElem?_eq_getElem (by omega), Option.getD_some]
end Go.Proofs.YtcplbbflfgckbaaGreatDoor.Pl

