/- Plain: the order in which both sides of PlainCode go is one. No conditions. -/
import Derived.Test.YtknonolfgpknjaaPlainC
set_option linter.unusedVariables false
set_option linter.unusedSimpArgs false
namespace Go.Proofs.Ytknonolfgpknjaa.Pl
open Go.RowKit Go.Sort Go.Proofs.YtknonolfgpknjaaW.PrintWords Go.Proofs.YtknonolfgpknjaaW.PrintLast Go.Proofs.YtknonolfgpknjaaW.PrintMore Go.Proofs.Ytknonolfgpknjaa.X
/-- By length, and then by number. -/
def ltI (l : List Int) (i j : Nat) : Prop := l.getD i 0 < l.getD j 0 ∨ (l.getD i 0 = l.getD j 0 ∧ i < j)
theorem ords_mem {l : List Int} : ∀ (n d i : Nat), i ∈ ords l d n ↔ i < l.length ∧ (d : Int) ≤ l.getD i 0 ∧ l.getD i 0 < (d + n : Nat)
  | 0, d, i => by simp only [ords]; constructor
                  · intro h; cases h
                  · rintro ⟨_, h1, h2⟩; omega
  | n + 1, d, i => by
    rw [ords, List.mem_append, ords_mem n (d + 1) i]
    unfold idxs
    rw [List.drop_zero, List.mem_filter, List.mem_range, decide_eq_true_eq]
    constructor
    · rintro (⟨h1, h2⟩ | ⟨h1, h2, h3⟩)
      · exact ⟨h1, by omega, by omega⟩
      · exact ⟨h1, by omega, by omega⟩
    · rintro ⟨h1, h2, h3⟩
      by_cases h : l.getD i 0 = (d : Int)
      · exact .inl ⟨h1, h⟩
      · exact .inr ⟨h1, by omega, by omega⟩
theorem ords_pairwise {l : List Int} : ∀ (n d : Nat), (ords l d n).Pairwise (ltI l)
  | 0, d => List.Pairwise.nil
  | n + 1, d => by
    rw [ords, List.pairwise_append]
    refine ⟨?_, ords_pairwise n (d + 1), fun i hi j hj => ?_⟩
    · unfold idxs
      rw [List.drop_zero]
      refine List.Pairwise.imp_of_mem (fun {a b} ha hb h => ?_) ((List.pairwise_lt_range (n := l.length)).filter _)
      have h1 := of_decide_eq_true (List.mem_filter.1 ha).2
      have h2 := of_decide_eq_true (List.mem_filter.1 hb).2
      exact .inr ⟨by omega, h⟩
    · unfold idxs at hi
      have h1 := of_decide_eq_true (List.mem_filter.1 hi).2
      have h2 := (ords_mem n (d + 1) j).1 hj
      exact .inl (by omega)
theorem ltI_asymm {l : List Int} {i j : Nat} (h : ltI l i j) : ¬ ltI l j i := by unfold ltI at *; omega
theorem ords_perm {l : List Int} (hb : ∀ i, i < l.length → 1 ≤ l.getD i 0 ∧ l.getD i 0 ≤ 14) : (ords l 1 14).Perm (List.range l.length) := by
  refine (List.perm_ext_iff_of_nodup ?_ List.nodup_range).2 (fun i => ?_)
  · exact (ords_pairwise 14 1).imp (fun {a b} h e => by subst e; exact ltI_asymm h h)
  · rw [ords_mem, List.mem_range]
    constructor
    · exact fun h => h.1
    · intro h; have := hb i h; exact ⟨h, by omega, by omega⟩
theorem one_ev {l : List Int} (hb : ∀ i, i < l.length → 1 ≤ l.getD i 0 ∧ l.getD i 0 ≤ 14) {i j : Nat} (hi : i < l.length) (hj : j < l.length) : impl_PlainCode_1.f (i : Int) (j : Int) l = some (l.getD i 0 - l.getD j 0) := by
  have b1 := hb i hi
  have b2 := hb j hj
  unfold impl_PlainCode_1.f
  rw [if_pos (by omega), rd_nat, rd_nat, w64 (by omega) (by omega)]
theorem order_some {l : List Int} (h1 : 1 ≤ l.length) (hn : l.length ≤ 12) (hb : ∀ i, i < l.length → 1 ≤ l.getD i 0 ∧ l.getD i 0 ≤ 14) : ∃ S : Array Int, slices_SortStableFunc_int_int.f ((List.range l.length).map (fun i : Nat => (i : Int))) (fun z_ z2_ => impl_PlainCode_1.f z_ z2_ l) = some S.toList ∧ PermIn 0 l.length ((List.range l.length).map (fun i : Nat => (i : Int))).toArray S ∧ SortedIn (fun x y => decide (rd l x < rd l y ∨ (rd l x = rd l y ∧ x < y))) 0 l.length S := by
  obtain ⟨d, hd⟩ : ∃ d, d = (List.range l.length).map (fun i : Nat => (i : Int)) := ⟨_, rfl⟩
  rw [← hd]
  have hdl : d.length = l.length := by rw [hd]; simp
  have hget : ∀ k, k < l.length → d.toArray[k]! = (k : Int) := fun k hk => by
    rw [getElem!_pos _ k (by simp; omega)]; simp [hd]
  have hmem : ∀ x ∈ d, ∃ i : Nat, i < l.length ∧ x = (i : Int) := fun x hx => by
    rw [hd] at hx
    obtain ⟨i, hi, rfl⟩ := List.mem_map.1 hx
    exact ⟨i, List.mem_range.1 hi, rfl⟩
  have hc : d ≠ [] ∧ d.length ≤ 12 ∧ (d.all fun x => d.all fun y => (impl_PlainCode_1.f x y l).isSome) = true := by
    refine ⟨fun e => by rw [e] at hdl; simp at hdl; omega, by omega, ?_⟩
    rw [List.all_eq_true]; intro x hx
    rw [List.all_eq_true]; intro y hy
    obtain ⟨i, hi, rfl⟩ := hmem x hx
    obtain ⟨j, hj, rfl⟩ := hmem y hy
    rw [one_ev hb hi hj]; rfl
  have e : Go.Sort.insertionSort (fun x y => decide ((impl_PlainCode_1.f x y l).getD 0 < 0)) d.toArray 0 d.length = Go.Sort.insertionSort (fun x y => decide (rd l x < rd l y)) d.toArray 0 l.length := by
    rw [hdl]
    refine sort_congr (p := fun x => ∃ i : Nat, i < l.length ∧ x = (i : Int)) ?_ d.toArray 0 l.length (by simp; omega) (fun k hk => ⟨k, by simpa [hdl] using hk, hget k (by simpa [hdl] using hk)⟩)
    rintro x y ⟨i, hi, rfl⟩ ⟨j, hj, rfl⟩
    rw [one_ev hb hi hj, rd_nat, rd_nat]
    simp only [Option.getD_some, decide_eq_decide]
    omega
  refine ⟨Go.Sort.insertionSort (fun x y => decide (rd l x < rd l y)) d.toArray 0 l.length, ?_, ?_⟩
  · unfold slices_SortStableFunc_int_int.f
    rw [if_pos hc, e]
  · exact stable_iota (rd l) l.length d.toArray (by simp [hdl]) hget (by omega)
theorem ext_all {A : Array Int} {n : Nat} (h : A.size = n) : A.extract 0 n = A := by subst h; simp
theorem order_eq {l : List Int} (h1 : 1 ≤ l.length) (hn : l.length ≤ 12) (hb : ∀ i, i < l.length → 1 ≤ l.getD i 0 ∧ l.getD i 0 ≤ 14) : slices_SortStableFunc_int_int.f ((List.range l.length).map (fun i : Nat => (i : Int))) (fun z_ z2_ => impl_PlainCode_1.f z_ z2_ l) = some ((ords l 1 14).map (fun i : Nat => (i : Int))) := by
  obtain ⟨S, hS, ⟨p1, _, p3⟩, hs⟩ := order_some h1 hn hb
  rw [hS]
  have hsz : S.size = l.length := by rw [p1]; simp
  have hx : S.extract 0 l.length = S := ext_all hsz
  have hy : (((List.range l.length).map (fun i : Nat => (i : Int))).toArray).extract 0 l.length = ((List.range l.length).map (fun i : Nat => (i : Int))).toArray := ext_all (by simp)
  rw [hx, hy] at p3
  have hperm : S.toList.Perm ((ords l 1 14).map (fun i : Nat => (i : Int))) := p3.trans ((ords_perm hb).symm.map _)
  refine congrArg some (List.Perm.eq_of_pairwise (le := fun x y : Int => rd l x < rd l y ∨ (rd l x = rd l y ∧ x ≤ y)) (fun a b _ _ h h' => by omega) ?_ ?_ hperm)
  · rw [List.pairwise_iff_getElem]
    intro i j hi hj hij
    rw [Array.length_toList] at hi hj
    have := hs i j (Nat.zero_le _) hij (by omega)
    rw [decide_eq_false_iff_not, getElem!_pos S j hj, getElem!_pos S i hi] at this
    rw [Array.getElem_toList, Array.getElem_toList]
    omega
  · rw [List.pairwise_map]
    refine (ords_pairwise 14 1).imp (fun {a b} h => ?_)
    unfold ltI at h
    rw [rd_nat, rd_nat]
    omega
theorem l0_ev {l : List Int} {out : List ByteArray} {R : List ByteArray × Bool} (h1 : 1 ≤ l.length) (hn : l.length ≤ 12) (hb : ∀ i, i < l.length → 1 ≤ l.getD i 0 ∧ l.getD i 0 ≤ 14) (hr : Ev (fun k => impl_PlainCode.l1 k out 0 ((ords l 1 14).map fun i : Nat => (i : Int)) (l.length : Int) 0 l) R) : Ev (fun k => impl_PlainCode.l0 k ([] : List Int) out 0 (l.length : Int) 0 l) R := by
  have key := ev_down (R := fun _ => R) (g := fun k i => impl_PlainCode.l0 k ((List.range i).map fun i : Nat => (i : Int)) out 0 (l.length : Int) (i : Nat) l) l.length
    (Ev.step (fun k => by simp only [impl_PlainCode.l0]; rfl) (ev_neg (by omega) (by
      rw [order_eq h1 hn hb]
      rw [show (((List.range l.length).map fun i : Nat => (i : Int)).length : Int) = (l.length : Int) by simp]
      exact ev_some hr)))
    (fun i hi ih => by
      refine Ev.step (fun k => by simp only [impl_PlainCode.l0]; rfl) (ev_pos (by omega) (ev_pos (by simp; omega) ?_))
      rw [List.range_succ, List.map_append] at ih
      rw [inc (show i ≤ 9223372036854775806 by omega)]
      exact ih)
  exact key 0 (Nat.zero_le _)
theorem plain_both {l : List Int} (hl : l.length * 8 ≤ 140737488351232) : ∃ r : List ByteArray × Bool, Ev (fun k => spec_PlainCode.f k l) r ∧ Ev (fun k => impl_PlainCode.f k l) r ∧ r.1.length ≤ 12 := by
  have e2 := l10Numbers_ev l 14 (by omega)
  unfold spec_PlainCode.f spec_l10Possible.f impl_PlainCode.f impl_ArePossible.f
  rw [areIn_eq]
  cases hc : numsB l 14 with
  | false =>
    refine ⟨(([] : List ByteArray), false), ?_, ?_, by simp⟩
    · exact Ev.bind (Ev.bind e2 (ev_neg (by rw [hc]; decide) (ev_eq rfl))) (ev_neg (by simp) (ev_eq rfl))
    · refine Ev.bind (ev_some (ev_neg (by simp) (ev_eq rfl))) (ev_neg (by simp) ?_)
      exact Ev.step (fun k => by simp only [impl_PlainCode.j0]; rfl) (ev_pos (by simp) (ev_eq rfl))
  | true =>
    have hnum := hc
    unfold numsB at hnum
    simp only [Bool.and_eq_true, decide_eq_true_eq, List.all_eq_true] at hnum
    obtain ⟨⟨n1, n2⟩, n3⟩ := hnum
    have hb : ∀ i, i < l.length → 1 ≤ l.getD i 0 ∧ l.getD i 0 ≤ 14 := fun i hi => n3 _ (getD_mem hi 0)
    obtain ⟨t, ht⟩ := fill_some l (by omega) (fun x hx => by have := n3 x hx; omega)
    have hs : Ev (fun k => spec_l10Fill.f k l) t := Ev.congr (fun k => fill_same k l (by omega)) ht
    by_cases h16 : t ≤ 16384
    · refine ⟨(((ords l 1 14).foldl (turn l) (List.replicate l.length (⟨#[]⟩ : ByteArray), 0)).1, true), ?_, ?_, ?_⟩
      · refine Ev.bind (Ev.bind e2 (ev_pos hc (Ev.bind hs (ev_eq rfl)))) (ev_pos (by simpa using h16) (Ev.bind ?_ (ev_eq rfl)))
        unfold spec_l10Plain.f
        refine ev_pos (by omega) (ev_pos (by omega) ?_)
        rw [Int.toNat_natCast]
        exact plain_l0_ev (by omega) hb 14 1 _ 0 rfl (by omega) (by omega) (by simp) (by omega) (by omega)
      · refine Ev.bind (ev_some (ev_pos rfl (Ev.bind ht (ev_eq rfl)))) (ev_pos rfl ?_)
        refine Ev.step (fun k => by simp only [impl_PlainCode.j0]; rfl) (ev_neg (by simpa using h16) (ev_pos (by omega) (ev_pos (by omega) ?_)))
        rw [Int.toNat_natCast]
        refine l0_ev (by omega) (by omega) hb ?_
        have hol : (ords l 1 14).length = l.length := by rw [(ords_perm hb).length_eq, List.length_range]
        have := l1_ev hb (ords l 1 14) (by omega) (fun i hi => ((ords_mem 14 1 i).1 hi).1) (ords l 1 14).length 0 (List.replicate l.length (⟨#[]⟩ : ByteArray)) 0 rfl (Nat.zero_le _) (by simp) (by omega) (by omega) (fun i hi => by
          rw [List.drop_zero] at hi
          have := ((ords_mem 14 1 i).1 hi).1
          simp [List.getD, this]) (by
          rw [List.drop_zero]
          exact (ords_pairwise 14 1).imp (fun {a b} h e => by subst e; exact ltI_asymm h h))
        rw [List.drop_zero, hol] at this
        exact this
      · rw [(turn_bounds hb _ _ 0 (fun i hi => ((ords_mem 14 1 i).1 hi).1) (by omega)).1]; simp; omega
    · refine ⟨(([] : List ByteArray), false), ?_, ?_, by simp⟩
      · exact Ev.bind (Ev.bind e2 (ev_pos hc (Ev.bind hs (ev_eq rfl)))) (ev_neg (by simpa using h16) (ev_eq rfl))
      · refine Ev.bind (ev_some (ev_pos rfl (Ev.bind ht (ev_eq rfl)))) (ev_pos rfl ?_)
        exact Ev.step (fun k => by simp only [impl_PlainCode.j0]; rfl) (ev_pos (by simpa using h16) (ev_eq rfl))
end Go.Proofs.Ytknonolfgpknjaa.Pl
