/- Plain: texts decoded: the program's and the reference's symbols are one. -/
import Derived.Test.YtapndhkecjdahaaDoorX3
import Derived.Test.YtapndhkecjdahaaDoorX5
import Derived.Test.YtapndhkecjdahaaDoorCodes
set_option linter.unusedVariables false
set_option linter.unusedSimpArgs false
namespace Go.Proofs.YtapndhkecjdahaaDoor.Pl
open Go.RowKit Go.Proofs.YtapndhkecjdahaaDoorW.PrintWords Go.Proofs.YtapndhkecjdahaaDoorW.PrintLast Go.Proofs.YtapndhkecjdahaaDoorW.PrintMore Go.Proofs.YtapndhkecjdahaaDoor.X Go.Proofs.YtapndhkecjdahaaDoor.Pure

theorem idx_char {α : Type} (z : α) (p : α → Bool) (l : List α) : ∃ r : Int, G.idxM (fun x => some (p x)) l = some r ∧ ((r = -1 ∧ ∀ i, i < l.length → p (l.getD i z) = false) ∨ (∃ i : Nat, i < l.length ∧ r = i ∧ p (l.getD i z) = true)) := by
  induction l with
  | nil => exact ⟨-1, rfl, .inl ⟨rfl, fun i hi => absurd hi (Nat.not_lt_zero _)⟩⟩
  | cons a l ih =>
    obtain ⟨r, hr, h⟩ := ih
    unfold G.idxM
    simp only [Option.bind_some, hr]
    cases ha : p a with
    | true => exact ⟨0, by simp, .inr ⟨0, by simp, rfl, ha⟩⟩
    | false =>
      rcases h with ⟨rfl, h⟩ | ⟨i, hi, rfl, h⟩
      · refine ⟨-1, by simp, .inl ⟨rfl, fun i hi => ?_⟩⟩
        cases i with
        | zero => exact ha
        | succ i => exact h i (by simp at hi; omega)
      · refine ⟨((i + 1 : Nat) : Int), ?_, .inr ⟨i + 1, by simp; omega, rfl, h⟩⟩
        simp only [Bool.false_eq_true, if_false]
        rw [if_neg (by omega)]
        congr 1
theorem code_one {l : List ByteArray} (h : codeB l = true) {t : ByteArray} {i j : Nat} (hi : i < l.length) (hj : j < l.length) (h1 : begB t (l.getD i ByteArray.empty) = true) (h2 : begB t (l.getD j ByteArray.empty) = true) : i = j := by
  unfold codeB at h
  rw [Bool.and_eq_true, allN_iff] at h
  have hc := h.2
  have no : ∀ a b, a < l.length → b < l.length → b ≠ a → begB (l.getD b ByteArray.empty) (l.getD a ByteArray.empty) = false := by
    intro a b ha hb hab
    have := hc a ha
    rw [Bool.and_eq_true, allN_iff] at this
    have := this.2 b hb
    rw [decide_eq_false hab, Bool.false_or, Bool.not_eq_true'] at this
    exact this
  refine Classical.byContradiction fun hne => ?_
  unfold begB at h1 h2 no
  rw [List.isPrefixOf_iff_prefix] at h1 h2
  rcases List.prefix_or_prefix_of_prefix h1 h2 with hp | hp
  · have := no i j hi hj (fun e => hne e.symm)
    rw [Bool.eq_false_iff, Ne, List.isPrefixOf_iff_prefix] at this
    exact this hp
  · have := no j i hj hi hne
    rw [Bool.eq_false_iff, Ne, List.isPrefixOf_iff_prefix] at this
    exact this hp
theorem begB_size {t c : ByteArray} (h : begB t c = true) : c.size ≤ t.size := by
  unfold begB at h
  rw [List.isPrefixOf_iff_prefix] at h
  have := h.length_le
  rwa [bytes_size, bytes_size] at this
/-- The reference's search through a code, in which at the most one sequence fits. -/
theorem search_ev (l : List ByteArray) (hl : l.length ≤ 1000) (s : ByteArray) (out : List Int) (a : Nat) (ha : a ≤ s.size) (m : Int)
    (hm : (m = -1 ∧ ∀ i, i < l.length → begB (s.extract a s.size) (l.getD i ByteArray.empty) = false) ∨ (∃ i : Nat, i < l.length ∧ m = i ∧ begB (s.extract a s.size) (l.getD i ByteArray.empty) = true ∧ ∀ j, j < l.length → begB (s.extract a s.size) (l.getD j ByteArray.empty) = true → j = i))
    (v : List Int × Int × Bool) (hv : Ev (fun k => if m < 0 then (some (out, wrap64 ((s.size : Int) - (a : Int)), true)) else (if out.length < 17592186044416 then (if 0 ≤ m then (if m < (l.length : Int) then (spec_DecodeText.l0 k l s (out ++ [m]) (wrap64 ((a : Int) + ((rdOf ByteArray.empty l m).size : Int)))) else (none)) else (none)) else (none))) v) :
    Ev (fun k => spec_DecodeText.l1 k l s out a (-1) 0) v := by
  have key : ∀ d (i : Nat) (b : Int), l.length - i = d → i ≤ l.length → (b = m ∧ (∀ j, i ≤ j → j < l.length → begB (s.extract a s.size) (l.getD j ByteArray.empty) = true → (j : Int) = m) ∨ (b = -1 ∧ ∃ j, i ≤ j ∧ j < l.length ∧ (j : Int) = m ∧ begB (s.extract a s.size) (l.getD j ByteArray.empty) = true ∧ ∀ q, q < l.length → begB (s.extract a s.size) (l.getD q ByteArray.empty) = true → q = j)) → Ev (fun k => spec_DecodeText.l1 k l s out a b i) v := by
    intro d
    induction d with
    | zero =>
      intro i b hd hi hb
      obtain rfl : b = m := by
        rcases hb with h | ⟨_, j, h1, h2, _⟩
        · exact h.1
        · omega
      exact Ev.step (fun k => by unfold spec_DecodeText.l1; rfl) (ev_neg (by omega) hv)
    | succ d ih =>
      intro i b hd hi hb
      have a1 : l.length - (i + 1) = d := by clear hb; omega
      have a2 : i + 1 ≤ l.length := by clear hb; omega
      have a3 : i < l.length := a2
      refine Ev.step (fun k => by unfold spec_DecodeText.l1; rfl) (ev_pos (by clear hb; omega) (ev_pos (by omega) (ev_pos (by omega) (ev_pos (by omega) ?_))))
      rw [Int.toNat_natCast, l2Begins_eq, rdOf_nat]
      refine ev_some ?_
      rw [inc (by omega)]
      by_cases hf : begB (s.extract a s.size) (l.getD i ByteArray.empty) = true
      · refine ev_pos hf (ih (i + 1) _ a1 a2 (.inl ?_))
        rcases hb with ⟨h1, h2⟩ | ⟨_, j, h1, h2, h3, h4, h5⟩
        · exact ⟨h2 i (Nat.le_refl _) a3 hf, fun j hj => h2 j (by omega)⟩
        · have e := h5 i a3 hf
          exact ⟨by rw [e]; exact h3, fun q hq hq2 hq3 => by rw [h5 q hq2 hq3]; exact h3⟩
      · refine ev_neg hf (ih (i + 1) _ a1 a2 ?_)
        rcases hb with ⟨h1, h2⟩ | ⟨h0, j, h1, h2, h3, h4, h5⟩
        · exact .inl ⟨h1, fun j hj => h2 j (by omega)⟩
        · refine .inr ⟨h0, j, ?_, h2, h3, h4, h5⟩
          have : i ≠ j := fun e => hf (by rw [e]; exact h4)
          omega
  refine key _ 0 (-1) rfl (Nat.zero_le _) ?_
  rcases hm with ⟨rfl, h⟩ | ⟨i, hi, rfl, h, h2⟩
  · exact .inl ⟨rfl, fun j _ hj hf => by rw [h j hj] at hf; cases hf⟩
  · exact .inr ⟨rfl, i, Nat.zero_le _, hi, rfl, h, h2⟩
theorem decode_loops (l : List ByteArray) (h : codeB l = true) (s : ByteArray) (hs : s.size ≤ 1000000) : ∃ r, Ev (fun k => spec_DecodeText.l0 k l s [] 0) r ∧ Ev (fun k => impl_DecodeText.l0 k l [] s) r ∧ r.1.length ≤ 60 := by
  have hll : l.length ≤ 12 := by
    unfold codeB at h
    simp only [Bool.and_eq_true, decide_eq_true_eq] at h
    omega
  have key : ∀ f (out : List Int) (a : Nat), out.length + f = 60 → a ≤ s.size → ∃ r, Ev (fun k => spec_DecodeText.l0 k l s out a) r ∧ Ev (fun k => impl_DecodeText.l0 k l out (s.extract a s.size)) r ∧ r.1.length ≤ 60 := by
    intro f
    induction f with
    | zero =>
      intro out a hf ha
      have hz : (s.extract a s.size).size = s.size - a := by rw [ByteArray.size_extract]; omega
      refine ⟨(out, ((s.extract a s.size).size : Int), true), Ev.step (fun k => by unfold spec_DecodeText.l0; rfl) (ev_neg (by omega) (ev_eq ?_)), Ev.step (fun k => by unfold impl_DecodeText.l0; rfl) (ev_neg (by omega) (ev_eq rfl)), by simp only; omega⟩
      rw [w64 (by omega) (by omega), hz]
      congr 2; omega
    | succ f ih =>
      intro out a hf ha
      have hz : (s.extract a s.size).size = s.size - a := by rw [ByteArray.size_extract]; omega
      obtain ⟨t, ht⟩ : ∃ t, t = s.extract a s.size := ⟨_, rfl⟩
      obtain ⟨m, hm, hc⟩ := idx_char ByteArray.empty (fun c => begB t c) l
      have hidx : slices_IndexFunc_string_string.f l (fun z_ => impl_DecodeText_1.f z_ t) = some m := by
        have e : (fun z_ => impl_DecodeText_1.f z_ t) = (fun c => some (begB t c)) := by
          funext c; unfold impl_DecodeText_1.f; exact hasPrefix_eq t c
        show G.idxM (fun z_ => impl_DecodeText_1.f z_ t) l = some m
        rw [e]; exact hm
      rw [← ht] at hz
      rcases hc with ⟨rfl, hno⟩ | ⟨i, hi, rfl, hyes⟩
      · refine ⟨(out, (t.size : Int), true), Ev.step (fun k => by unfold spec_DecodeText.l0; rfl) (ev_pos (by omega) ?_), ?_, by simp only; omega⟩
        · refine search_ev l (by omega) s out a ha (-1) (.inl ⟨rfl, by rw [← ht]; exact hno⟩) _ (ev_pos (by omega) (ev_eq ?_))
          rw [w64 (by omega) (by omega), hz]
          congr 2; omega
        · rw [← ht]
          refine Ev.step (fun k => by unfold impl_DecodeText.l0; rfl) (ev_pos (by omega) ?_)
          rw [hidx]
          exact ev_some (ev_pos (by omega) (ev_eq rfl))
      · have hle := begB_size hyes
        obtain ⟨c, hcd⟩ : ∃ c, c = l.getD i ByteArray.empty := ⟨_, rfl⟩
        rw [← hcd] at hle
        obtain ⟨r, h1, h2, h3⟩ := ih (out ++ [(i : Int)]) (a + c.size) (by simp; omega) (by omega)
        have hcut : t.extract c.size t.size = s.extract (a + c.size) s.size := by
          refine bytes_inj ?_
          rw [bytes_extract, bytes_extract, List.take_of_length_le (by rw [List.length_drop, bytes_size]; omega), List.take_of_length_le (by rw [List.length_drop, bytes_size]; omega), ht, bytes_extract, List.take_of_length_le (by rw [List.length_drop, bytes_size]; omega), List.drop_drop]
        refine ⟨r, Ev.step (fun k => by unfold spec_DecodeText.l0; rfl) (ev_pos (by omega) ?_), ?_, h3⟩
        · refine search_ev l (by omega) s out a ha i (.inr ⟨i, hi, rfl, by rw [← ht]; exact hyes, fun j hj hf2 => code_one h hj hi hf2 (by rw [← ht]; exact hyes)⟩) _ ?_
          refine ev_neg (by omega) (ev_pos (by omega) (ev_pos (by omega) (ev_pos (by omega) ?_)))
          rw [rdOf_nat, ← hcd, w64 (by omega) (by omega), show ((a : Int) + (c.size : Int)) = ((a + c.size : Nat) : Int) by omega]
          exact h1
        · rw [← ht]
          refine Ev.step (fun k => by unfold impl_DecodeText.l0; rfl) (ev_pos (by omega) ?_)
          rw [hidx]
          refine ev_some (ev_neg (by omega) (ev_pos (by omega) (ev_pos (by omega) (ev_pos (by omega) ?_))))
          rw [rdOf_nat, ← hcd]
          refine ev_pos (by omega) (ev_pos (by omega) ?_)
          rw [hcut]
          exact h2
  obtain ⟨r, h1, h2, h3⟩ := key 60 [] 0 rfl (Nat.zero_le _)
  have e : s.extract 0 s.size = s := bytes_inj (by rw [bytes_extract, List.drop_zero, List.take_of_length_le (by rw [bytes_size]; omega)])
  rw [e] at h2
  exact ⟨r, h1, h2, h3⟩
theorem decode_both (l : List ByteArray) (hl : l.length * 16 ≤ 140737488351232) (hs : ∀ y ∈ l, y.size ≤ 140737488351232) (s : ByteArray) (hsz : s.size ≤ 140737488351232) : ∃ r : List Int × Int × Bool, Ev (fun k => spec_DecodeText.f k l s) r ∧ Ev (fun k => impl_DecodeText.f k l s) r ∧ r.1.length ≤ 60 := by
  have bad1 : Ev (fun k => spec_DecodeText.j0 k l s [] true) (([] : List Int), (0 : Int), false) := Ev.step (fun k => by unfold spec_DecodeText.j0; rfl) (ev_pos rfl (ev_eq rfl))
  have bad2 : Ev (fun k => impl_DecodeText.j0 k l true s) (([] : List Int), (0 : Int), false) := Ev.step (fun k => by unfold impl_DecodeText.j0; rfl) (ev_pos rfl (ev_eq rfl))
  have e1 := l10Code_ev l hl hs
  have e2 := isCode_ev l hl hs
  have e3 := l10Bits_ev s 840 hsz (by omega)
  have e4 := areSigns_eq s 840 hsz
  unfold spec_DecodeText.f impl_DecodeText.f
  cases hc : codeB l with
  | false =>
    rw [hc] at e1 e2
    exact ⟨_, ev_some (Ev.bind e1 (ev_neg (by simp) bad1)), Ev.bind e2 (ev_neg (by simp) bad2), Nat.zero_le _⟩
  | true =>
    rw [hc] at e1 e2
    cases hb : bitsB s 840 with
    | false =>
      rw [hb] at e3 e4
      refine ⟨_, ev_some (Ev.bind e1 (ev_pos rfl (Ev.bind e3 bad1))), Ev.bind e2 (ev_pos rfl ?_), Nat.zero_le _⟩
      rw [e4]
      exact ev_some bad2
    | true =>
      rw [hb] at e3 e4
      have hs2 : s.size ≤ 1000000 := by
        unfold bitsB at hb
        simp only [Bool.and_eq_true, decide_eq_true_eq] at hb
        omega
      obtain ⟨r, h1, h2, h3⟩ := decode_loops l hc s hs2
      refine ⟨r, ev_some (Ev.bind e1 (ev_pos rfl (Ev.bind e3 ?_))), Ev.bind e2 (ev_pos rfl ?_), h3⟩
      · exact Ev.step (fun k => by unfold spec_DecodeText.j0; rfl) (ev_neg (by simp) h1)
      · rw [e4]
        refine ev_some ?_
        exact Ev.step (fun k => by unfold impl_DecodeText.j0; rfl) (ev_neg (by simp) h2)
end Go.Proofs.YtapndhkecjdahaaDoor.Pl
