/- Plain: BranchesOf of the program and of the reference answer alike. -/
import Derived.Test.YtcbjfflaamlpcaaDoorX8
import Derived.Test.YtcbjfflaamlpcaaDoorCodes
import Derived.Test.YtcbjfflaamlpcaaDoorGlue
import Derived.Test.YtcbjfflaamlpcaaDoorSetE
set_option linter.unusedVariables false
set_option linter.unusedSimpArgs false
namespace Go.Proofs.YtcbjfflaamlpcaaDoor.Pure
open Go.RowKit Go.Proofs.YtcbjfflaamlpcaaDoorW.PrintWords Go.Proofs.YtcbjfflaamlpcaaDoorW.PrintLast Go.Proofs.YtcbjfflaamlpcaaDoorW.PrintMore Go.Proofs.YtcbjfflaamlpcaaDoor.X Go.Proofs.YtcbjfflaamlpcaaDoor.Pl
/-- The beginnings of a word that are shorter than it. -/
def begs (w : Wd) : List Wd := (List.range w.length).map fun n => w.take n
theorem begs_get (w : Wd) (n : Nat) (h : n < w.length) : (begs w).drop n = w.take n :: (begs w).drop (n + 1) := by
  have hl : n < (begs w).length := by simpa [begs] using h
  rw [List.drop_eq_getElem_cons hl]
  simp [begs]
theorem begs_end (w : Wd) : (begs w).drop w.length = [] := by rw [List.drop_eq_nil_iff]; simp [begs]
theorem take_bw (s : ByteArray) (n : Nat) : bw (s.extract 0 n) = (bw s).take n := by
  have := extract_wb (bw s) n
  rw [wb_bw] at this
  rw [this, bw_wb]
theorem code_sizes {l : List ByteArray} (h : codeB l = true) : l.length ≤ 12 ∧ ∀ i, i < l.length → (l.getD i ByteArray.empty).size ≤ 14 := by
  unfold codeB at h
  rw [Bool.and_eq_true, Bool.and_eq_true, decide_eq_true_eq, decide_eq_true_eq, allN_iff] at h
  refine ⟨by omega, fun i hi => ?_⟩
  have := h.2 i hi
  unfold seqB bitsB at this
  simp only [Bool.and_eq_true, decide_eq_true_eq] at this
  omega
theorem spec_inner (l : List ByteArray) (i : Nat) (hi : i < l.length) (hl : l.length ≤ 12) (hs : (l.getD i ByteArray.empty).size ≤ 14) (R : Int × Bool) : ∀ m j (A : List Wd), (l.getD i ByteArray.empty).size - j = m → j ≤ (l.getD i ByteArray.empty).size → A.length + m ≤ 1000 → (∀ x ∈ A, x.length ≤ 14) →
    (∀ B : List Wd, B = ((begs (bw (l.getD i ByteArray.empty))).drop j).foldl ins A → B.length ≤ A.length + m → (∀ x ∈ B, x.length ≤ 14) → Ev (fun k => spec_BranchesOf.l0 k l (B.map wb) ((i + 1 : Nat) : Int)) R) → Ev (fun k => spec_BranchesOf.l1 k l (A.map wb) (i : Nat) (j : Nat)) R := by
  have hsz : (bw (l.getD i ByteArray.empty)).length = (l.getD i ByteArray.empty).size := bw_size _
  intro m
  induction m with
  | zero =>
    intro j A hm hj hA hx h
    refine Ev.step (fun k => by unfold spec_BranchesOf.l1; rfl) (ev_pos (by omega) (ev_pos (by omega) ?_))
    rw [rdOf_nat]
    refine ev_neg (by omega) ?_
    rw [inc (by omega)]
    obtain rfl : j = (l.getD i ByteArray.empty).size := by omega
    exact h A (by rw [← hsz, begs_end]; rfl) (by omega) hx
  | succ m ih =>
    intro j A hm hj hA hx h
    refine Ev.step (fun k => by unfold spec_BranchesOf.l1; rfl) (ev_pos (by omega) (ev_pos (by omega) ?_))
    rw [rdOf_nat]
    refine ev_pos (by omega) (ev_pos (by omega) (ev_pos (by omega) ?_))
    rw [Int.toNat_natCast]
    have hw : ((l.getD i ByteArray.empty).extract 0 j).size ≤ 14 := by
      rw [← bw_size, take_bw, List.length_take]; omega
    refine Ev.bind (l2Put_ev (A.map wb) _ (by rw [List.length_map]; omega) (fun x hx2 => ?_) (by omega)) ?_
    · obtain ⟨y, hy, rfl⟩ := List.mem_map.1 hx2
      rw [wb_size]; have := hx y hy; omega
    rw [bw_map_wb, inc (by omega), take_bw]
    have hins := ins_length A ((bw (l.getD i ByteArray.empty)).take j)
    refine ih (j + 1) (ins A ((bw (l.getD i ByteArray.empty)).take j)) (by omega) (by omega) (by omega) (fun x hx2 => ?_) (fun B hB hBl hBx => h B ?_ (by omega) hBx)
    · rcases (mem_ins _ _ _).1 hx2 with rfl | hx3
      · rw [List.length_take]; omega
      · exact hx x hx3
    · rw [hB, begs_get _ j (by omega), List.foldl_cons]
theorem spec_outer (l : List ByteArray) (hl : l.length ≤ 12) (hs : ∀ i, i < l.length → (l.getD i ByteArray.empty).size ≤ 14) : ∀ m i (A : List Wd), l.length - i = m → i ≤ l.length → A.length + 14 * m ≤ 1000 → (∀ x ∈ A, x.length ≤ 14) → Ev (fun k => spec_BranchesOf.l0 k l (A.map wb) (i : Nat)) (((((l.drop i).flatMap fun s => begs (bw s)).foldl ins A).length : Int), true) := by
  intro m
  induction m with
  | zero =>
    intro i A hm hi hA hx
    refine Ev.step (fun k => by unfold spec_BranchesOf.l0; rfl) (ev_neg (by omega) (ev_eq ?_))
    rw [List.drop_of_length_le (by omega), List.length_map]; rfl
  | succ m ih =>
    intro i A hm hi hA hx
    have hi' : i < l.length := by omega
    refine Ev.step (fun k => by unfold spec_BranchesOf.l0; rfl) (ev_pos (by omega) ?_)
    have hs' := hs i hi'
    refine spec_inner l i hi' hl hs' _ _ 0 A rfl (Nat.zero_le _) (by omega) hx (fun B hB hBl hBx => ?_)
    have := ih (i + 1) B (by omega) (by omega) (by omega) hBx
    rw [drop_cons hi' ByteArray.empty, List.flatMap_cons, List.foldl_append]
    rw [List.drop_zero] at hB
    rw [← hB]
    exact this
theorem impl_inner (l : List ByteArray) (i : Nat) (w : ByteArray) (hi : i < l.length) (hl : l.length ≤ 12) (hs : w.size ≤ 14) (R : Int × Bool) : ∀ m j (A : List Wd), w.size - j = m → j ≤ w.size → A.length + m ≤ 1000 →
    Ev (fun k => impl_BranchesOf.l0 k ((A ++ (begs (bw w)).drop j).map wb) l (l.length : Int) ((i + 1 : Nat) : Int)) R → Ev (fun k => impl_BranchesOf.l1 k (A.map wb) w l (l.length : Int) (i : Nat) (w.size : Int) (j : Nat)) R := by
  have hsz : (bw w).length = w.size := bw_size _
  intro m
  induction m with
  | zero =>
    intro j A hm hj hA h
    refine Ev.step (fun k => by unfold impl_BranchesOf.l1; rfl) (ev_neg (by omega) ?_)
    rw [inc (by omega)]
    obtain rfl : j = w.size := by omega
    rw [← hsz, begs_end, List.append_nil] at h
    exact h
  | succ m ih =>
    intro j A hm hj hA h
    refine Ev.step (fun k => by unfold impl_BranchesOf.l1; rfl) (ev_pos (by omega) (ev_pos (by omega) (ev_pos (by omega) (ev_pos (by rw [List.length_map]; omega) ?_))))
    rw [Int.toNat_natCast, inc (by omega)]
    rw [begs_get _ j (by omega), List.append_cons] at h
    have := ih (j + 1) (A ++ [(bw w).take j]) (by omega) (by omega) (by rw [List.length_append]; simp; omega) h
    rw [List.map_append] at this
    rw [show w.extract 0 j = wb ((bw w).take j) by rw [← take_bw, wb_bw]]
    exact this
theorem impl_outer (l : List ByteArray) (hl : l.length ≤ 12) (hs : ∀ i, i < l.length → (l.getD i ByteArray.empty).size ≤ 14) : ∀ m i (A : List Wd), l.length - i = m → i ≤ l.length → A.length + 14 * m ≤ 1000 → Ev (fun k => impl_BranchesOf.l0 k (A.map wb) l (l.length : Int) (i : Nat)) (((setW (A ++ (l.drop i).flatMap fun s => begs (bw s))).length : Int), true) := by
  intro m
  induction m with
  | zero =>
    intro i A hm hi hA
    refine Ev.step (fun k => by unfold impl_BranchesOf.l0; rfl) (ev_neg (by omega) ?_)
    rw [set_eq A (by omega)]
    refine ev_some (ev_eq ?_)
    rw [List.drop_of_length_le (by omega), List.length_map]; simp
  | succ m ih =>
    intro i A hm hi hA
    have hi' : i < l.length := by omega
    have hs' := hs i hi'
    refine Ev.step (fun k => by unfold impl_BranchesOf.l0; rfl) (ev_pos (by omega) (ev_pos (by omega) (ev_pos (by omega) ?_)))
    rw [rdOf_nat]
    refine impl_inner l i _ hi' hl hs' _ _ 0 A rfl (Nat.zero_le _) (by omega) ?_
    have hbl : (begs (bw (l.getD i ByteArray.empty))).length = (l.getD i ByteArray.empty).size := by rw [begs, List.length_map, List.length_range, bw_size]
    rw [List.drop_zero]
    have := ih (i + 1) (A ++ begs (bw (l.getD i ByteArray.empty))) (by omega) (by omega) (by rw [List.length_append]; omega)
    rw [drop_cons hi' ByteArray.empty, List.flatMap_cons, ← List.append_assoc]
    exact this
theorem both (l : List ByteArray) (hl : l.length * 16 ≤ 140737488351232) (hs : ∀ y ∈ l, y.size ≤ 140737488351232) : ∃ r, Ev (fun k => spec_BranchesOf.f k l) r ∧ Ev (fun k => impl_BranchesOf.f k l) r := by
  unfold spec_BranchesOf.f impl_BranchesOf.f
  have h1 := l10Code_ev l hl hs
  have h2 := isCode_ev l hl hs
  cases hc : codeB l with
  | false =>
    rw [hc] at h1 h2
    exact ⟨(0, false), Ev.bind h1 (ev_neg (by decide) (ev_eq rfl)), Ev.bind h2 (ev_neg (by decide) (ev_eq rfl))⟩
  | true =>
    rw [hc] at h1 h2
    obtain ⟨c1, c2⟩ := code_sizes hc
    have a := spec_outer l c1 c2 _ 0 [] rfl (Nat.zero_le _) (by simp; omega) (fun x hx => absurd hx (by simp))
    have b := impl_outer l c1 c2 _ 0 [] rfl (Nat.zero_le _) (by simp; omega)
    rw [foldl_setW] at a
    exact ⟨_, Ev.bind h1 (ev_pos rfl a), Ev.bind h2 (ev_pos rfl b)⟩
theorem FnExactBranchesOf : ∀ (l0 : List ByteArray), (l0.length * 16 ≤ 140737488351232 ∧ ∀ y ∈ l0, y.size ≤ 140737488351232) → ∃ k, laws_FnExactBranchesOf.f k l0 = some true := by
  rintro l ⟨hl, hs⟩
  refine Ev.rounds (r := true) ?_
  obtain ⟨r, hr, _, _⟩ := szStringS_ev l 1048576 (by omega) (by omega) hl hs
  obtain ⟨⟨b, ok⟩, h1, h2⟩ := both l hl hs
  unfold laws_FnExactBranchesOf.f
  refine Ev.bind hr (ev_ite (fun _ => ev_eq rfl) (fun _ => ?_))
  refine Ev.bind (toStringS_ev l hl) (Ev.bind h1 (Ev.bind (toStringS_ev l hl) (Ev.bind h2 ?_)))
  simp only [bne_self_eq_false]
  refine ev_pos trivial (Ev.step (fun k => by unfold laws_FnExactBranchesOf.j0; rfl) (ev_neg (by decide) ?_))
  exact Ev.bind (toStringS_ev l hl) (Ev.bind (eqStringS_ev l l (by omega)) (ev_pos (by simp) (ev_eq rfl)))
end Go.Proofs.YtcbjfflaamlpcaaDoor.Pure
