/- Plain: the program's tries: what each function answers. -/
import Derived.Test.YtcplbbflfgckbaaGreatDoorX10
import Derived.Test.YtcplbbflfgckbaaGreatDoorX11
import Derived.Test.YtcplbbflfgckbaaGreatDoorX12
import Derived.Test.YtcplbbflfgckbaaGreatDoorX13
import Derived.Test.YtcplbbflfgckbaaGreatDoorTrieC
set_option linter.unusedVariables false
set_option linter.unusedSimpArgs false
namespace Go.Proofs.YtcplbbflfgckbaaGreatDoor.Pl
open Go.RowKit Go.Proofs.YtcplbbflfgckbaaGreatDoorW.PrintWords Go.Proofs.YtcplbbflfgckbaaGreatDoorW.PrintLast Go.Proofs.YtcplbbflfgckbaaGreatDoorW.PrintMore Go.Proofs.YtcplbbflfgckbaaGreatDoor.X

theorem in_eq (a b c : Int) : impl_in.f a b c = some (decide (b ≤ a ∧ a ≤ c)) := by
  unfold impl_in.f
  by_cases h : a ≥ b
  · rw [if_pos h]; congr 1; rw [decide_eq_decide]; exact ⟨fun h2 => ⟨h, h2⟩, fun h2 => h2.2⟩
  · rw [if_neg h]; congr 1; symm; rw [decide_eq_false_iff_not]; exact fun h2 => h h2.1
/-! ### prefixes and words -/
theorem getD_wb (ps : List Wd) (i : Nat) (h : i < ps.length) : rdOf ByteArray.empty (ps.map wb) (i : Int) = wb (ps.getD i []) := by
  rw [rdOf_map_wb ps i h, List.getD_eq_getElem?_getD, List.getElem?_eq_getElem h, Option.getD_some]
theorem prefixes_ev (t : List ND) (ht : t.length ≤ 2000000) : Ev (fun k => impl_Trie_prefixes.f k t) (match prefP t with | some P => (P.map wb, true) | none => ([], false)) := by
  unfold impl_Trie_prefixes.f
  rw [in_eq]
  refine ev_some ?_
  unfold prefP
  by_cases hc : 1 ≤ t.length ∧ t.length ≤ 481
  case neg =>
    rw [if_neg hc]
    exact ev_neg (by simp only [decide_eq_true_eq]; omega) (ev_eq rfl)
  rw [if_pos hc]
  refine ev_pos (decide_eq_true (by omega)) (ev_pos (by omega) (ev_some ?_))
  obtain ⟨ns, hns⟩ : ∃ ns, ns = t.drop 1 := ⟨_, rfl⟩
  rw [← hns]
  have hnl : ns.length ≤ 480 := by rw [hns, List.length_drop]; omega
  have key : ∀ d i (out : List Wd), ns.length - i = d → i ≤ ns.length → out.length = i + 1 → (∀ p ∈ out, p.length ≤ i) → Ev (fun k => impl_Trie_prefixes.l0 k (out.map wb) ns (ns.length : Int) (i : Int)) (match goP out (ns.drop i) with | some P => (P.map wb, true) | none => ([], false)) := by
    intro d
    induction d with
    | zero =>
      intro i out hd hi ho hs
      refine Ev.step (fun k => by unfold impl_Trie_prefixes.l0; rfl) (ev_neg (by omega) (ev_eq ?_))
      rw [List.drop_of_length_le (by omega)]
      rfl
    | succ d ih =>
      intro i out hd hi ho hs
      have hi' : i < ns.length := by omega
      refine Ev.step (fun k => by unfold impl_Trie_prefixes.l0; rfl) (ev_pos (by omega) (ev_pos (by omega) (ev_pos (by omega) ?_)))
      rw [rd_nd hi', in_eq, List.drop_eq_getElem_cons hi']
      unfold goP
      refine ev_some ?_
      by_cases h1 : 0 ≤ ns[i].f1 ∧ ns[i].f1 ≤ (i : Int)
      case neg =>
        rw [if_neg (fun h => h1 ⟨h.1, by omega⟩)]
        exact ev_neg (by simpa using h1) (ev_eq rfl)
      refine ev_pos (decide_eq_true h1) ?_
      rw [in_eq]
      refine ev_some ?_
      by_cases h2 : 0 ≤ ns[i].f0 ∧ ns[i].f0 ≤ 25
      case neg =>
        rw [if_neg (fun h => h2 ⟨h.2.2.1, h.2.2.2⟩)]
        exact ev_neg (by simpa using h2) (ev_eq rfl)
      refine ev_pos (decide_eq_true h2) (ev_pos h1.1 (ev_pos (by rw [List.length_map]; omega) ?_))
      rw [if_pos ⟨h1.1, by omega, h2.1, h2.2⟩]
      unfold impl_letter.f
      refine ev_some ?_
      rw [letter_str h2.1 h2.2]
      have hpo : ns[i].f1.toNat < out.length := by omega
      have hps := hs _ (getD_mem (l := out) (i := ns[i].f1.toNat) hpo [])
      have e1 : rdOf ByteArray.empty (out.map wb) ns[i].f1 = wb (out.getD ns[i].f1.toNat []) := by
        have := getD_wb out ns[i].f1.toNat hpo
        rwa [show ((ns[i].f1.toNat : Nat) : Int) = ns[i].f1 by omega] at this
      rw [e1]
      refine ev_pos (by rw [wb_size, wb_size, List.length_singleton]; omega) (ev_pos (by rw [List.length_map]; omega) ?_)
      rw [wb_append, inc (by omega)]
      have := ih (i + 1) (out ++ [out.getD ns[i].f1.toNat [] ++ [letterB ns[i].f0]]) (by omega) (by omega) (by rw [List.length_append, List.length_singleton]; omega) (fun p hp => by
        rcases List.mem_append.1 hp with hp | hp
        · have := hs p hp; omega
        · rw [List.mem_singleton] at hp; subst hp
          rw [List.length_append, List.length_singleton]; omega)
      rw [List.map_append] at this
      exact this
  have := key _ 0 [[]] rfl (Nat.zero_le _) rfl (by simp)
  rw [List.drop_zero] at this
  exact this
theorem words_ev {t : List ND} {P : List Wd} (h : prefP t = some P) : Ev (fun k => impl_Trie_words.f k t) ((wordsP t P).map wb) := by
  have hP := prefP_spec h
  have hp := prefixes_ev t (by omega)
  rw [h] at hp
  unfold impl_Trie_words.f
  refine Ev.bind hp ?_
  have key : ∀ d i, t.length - i = d → i ≤ t.length → ∀ acc : List ByteArray, acc.length ≤ i → Ev (fun k => impl_Trie_words.l0 k (P.map wb) acc t (t.length : Int) i) (acc ++ ((((List.range t.length).drop i).filter fun i => (t.getD i zND).f2).map fun i => P.getD i []).map wb) := by
    intro d
    induction d with
    | zero =>
      intro i hd hi acc ha
      refine Ev.step (fun k => by unfold impl_Trie_words.l0; rfl) (ev_neg (by omega) (ev_eq ?_))
      rw [List.drop_of_length_le (by simp; omega)]
      simp
    | succ d ih =>
      intro i hd hi acc ha
      have hi' : i < t.length := by omega
      refine Ev.step (fun k => by unfold impl_Trie_words.l0; rfl) (ev_pos (by omega) (ev_pos (by omega) (ev_pos (by omega) ?_)))
      have e : (List.range t.length).drop i = i :: (List.range t.length).drop (i + 1) := by
        rw [List.drop_eq_getElem_cons (by simpa using hi')]; simp
      have eg : (t.getD i zND).f2 = t[i].f2 := by rw [List.getD_eq_getElem?_getD, List.getElem?_eq_getElem hi', Option.getD_some]
      rw [rd_nd hi', e, List.filter_cons, eg]
      refine ev_ite (fun hc => ?_) (fun hc => ?_)
      · rw [getD_wb P i (by omega)]
        refine ev_pos (by rw [List.length_map]; omega) (ev_pos (by omega) ?_)
        rw [inc (by omega), if_pos hc]
        have := ih (i + 1) (by omega) (by omega) (acc ++ [wb (P.getD i [])]) (by simp; omega)
        rw [List.map_cons, List.map_cons]
        rw [List.append_assoc, List.singleton_append] at this
        exact this
      · rw [inc (by omega), if_neg hc]
        exact ih (i + 1) (by omega) (by omega) acc (by omega)
  have := key _ 0 rfl (Nat.zero_le _) [] (Nat.le_refl _)
  rw [List.nil_append, List.drop_zero] at this
  exact this
/-! ### comparisons -/
theorem less_eq (a b : ByteArray) : cmp_Less_string.f a b = some (decide (bw a < bw b)) := by
  unfold cmp_Less_string.f cmp_isNaN_string.f
  simp only [Option.bind_some, bne_self_eq_false, Bool.false_eq_true, if_false]
  rw [Go.Proofs.bytesLess_eq, toList_bw, toList_bw]
theorem isSorted_ev (l : List Wd) (hl : l.length ≤ 1000000) : Ev (fun k => slices_IsSorted_string_string.f k (l.map wb)) (decide (l.Pairwise (· ≤ ·))) := by
  have key : ∀ i, i < l.length → Ev (fun k => slices_IsSorted_string_string.l0 k (l.map wb) (i : Int)) (decide ((l.take (i + 1)).Pairwise (· ≤ ·))) := by
    intro i
    induction i with
    | zero =>
      intro hi
      refine Ev.step (fun k => by unfold slices_IsSorted_string_string.l0; rfl) (ev_neg (by omega) (ev_eq ?_))
      symm; rw [decide_eq_true_eq]
      match l, hi with
      | x :: l, _ => simp
    | succ i ih =>
      intro hi
      refine Ev.step (fun k => by unfold slices_IsSorted_string_string.l0; rfl) (ev_pos (by omega) (ev_pos (by omega) (ev_pos (by rw [List.length_map]; omega) ?_)))
      rw [show wrap64 (((i + 1 : Nat) : Int) - 1) = ((i : Nat) : Int) by rw [w64 (by omega) (by omega)]; omega]
      refine ev_pos (by omega) (ev_pos (by rw [List.length_map]; omega) ?_)
      rw [rdOf_map_wb l (i + 1) hi, rdOf_map_wb l i (by omega), less_eq, bw_wb, bw_wb]
      refine ev_some (ev_ite (fun hc => ev_eq ?_) (fun hc => ?_))
      · symm; rw [decide_eq_false_iff_not]
        intro h
        have h1 : (l.take (i + 1 + 1))[i]'(by rw [List.length_take]; omega) ≤ (l.take (i + 1 + 1))[i + 1]'(by rw [List.length_take]; omega) := List.pairwise_iff_getElem.1 h i (i + 1) _ _ (by omega)
        rw [List.getElem_take, List.getElem_take] at h1
        exact absurd (of_decide_eq_true hc) (List.not_lt.2 h1)
      · refine Eq.mp (congrArg _ ?_) (ih (by omega))
        rw [decide_eq_decide, List.take_succ_eq_append_getElem hi, List.pairwise_append]
        constructor
        · intro h
          refine ⟨h, by simp, fun a ha b hb => ?_⟩
          rw [List.mem_singleton] at hb
          subst hb
          have h2 : l[i] ≤ l[i + 1] := List.not_lt.1 (fun h3 => hc (decide_eq_true h3))
          obtain ⟨j, hj, rfl⟩ := List.getElem_of_mem ha
          rw [List.length_take] at hj
          rcases Nat.lt_or_ge j i with h3 | h3
          · have h4 : (l.take (i + 1))[j]'(by rw [List.length_take]; omega) ≤ (l.take (i + 1))[i]'(by rw [List.length_take]; omega) := List.pairwise_iff_getElem.1 h j i _ _ h3
            rw [List.getElem_take (i := i)] at h4
            exact List.le_trans h4 h2
          · obtain rfl : j = i := by omega
            rw [List.getElem_take]; exact h2
        · exact fun h => h.1
  unfold slices_IsSorted_string_string.f
  rw [List.length_map]
  rcases Nat.eq_zero_or_pos l.length with h0 | h0
  · have : l = [] := List.length_eq_zero_iff.1 h0
    subst this
    exact Ev.step (fun k => by unfold slices_IsSorted_string_string.l0; rfl) (ev_neg (by rw [show ((([] : List Wd).length : Int) - 1) = -1 from rfl, w64 (by omega) (by omega)]; omega) (ev_eq (by simp)))
  · have := key (l.length - 1) (by omega)
    rw [show wrap64 ((l.length : Int) - 1) = ((l.length - 1 : Nat) : Int) by rw [w64 (by omega) (by omega)]; omega]
    rwa [show l.length - 1 + 1 = l.length by omega, List.take_length] at this
theorem equal_ev (a b : List ND) (ha : a.length ≤ 2000000) : Ev (fun k => impl_Node.f k a b) (decide (a = b)) := by
  unfold impl_Node.f
  refine ev_ite (fun hl => ?_) (fun hl => ev_eq ?_)
  · have hl' : a.length = b.length := by omega
    have key : ∀ d i, a.length - i = d → i ≤ a.length → a.take i = b.take i → Ev (fun k => impl_Node.l0 k a b (a.length : Int) (i : Int)) (decide (a = b)) := by
      intro d
      induction d with
      | zero =>
        intro i hd hi ht
        refine Ev.step (fun k => by unfold impl_Node.l0; rfl) (ev_neg (by omega) (ev_eq ?_))
        symm; rw [decide_eq_true_eq]
        rw [List.take_of_length_le (by omega), List.take_of_length_le (by omega)] at ht
        exact ht
      | succ d ih =>
        intro i hd hi ht
        have hia : i < a.length := by omega
        have hib : i < b.length := by omega
        refine Ev.step (fun k => by unfold impl_Node.l0; rfl) (ev_pos (by omega) (ev_pos (by omega) (ev_pos (by omega) (ev_pos (by omega) ?_))))
        rw [rd_nd hia, rd_nd hib]
        by_cases hc : a[i] = b[i]
        · refine ev_neg (by rw [hc]; simp) ?_
          rw [inc (by omega)]
          refine ih (i + 1) (by omega) (by omega) ?_
          rw [List.take_succ_eq_append_getElem hia, List.take_succ_eq_append_getElem hib, ht, hc]
        · refine ev_pos ?_ (ev_eq ?_)
          · by_cases h1 : a[i].f0 = b[i].f0
            · by_cases h2 : a[i].f1 = b[i].f1
              · by_cases h3 : a[i].f2 = b[i].f2
                · exact absurd (show a[i] = b[i] by cases ha : a[i]; cases hb : b[i]; rw [ha, hb] at h1 h2 h3; simp at h1 h2 h3; rw [h1, h2, h3]) hc
                · simp [h3]
              · simp [h2]
            · simp [h1]
          · symm; rw [decide_eq_false_iff_not]; rintro rfl; exact hc rfl
    exact key _ 0 rfl (Nat.zero_le _) rfl
  · symm; rw [decide_eq_false_iff_not]; rintro rfl; exact hl rfl
/-! ### a word in a sorted list -/
theorem half_eq {a b : Nat} (h : a + b ≤ 1000000000) : wrap64 ((IntKind.u64.wrap (wrap64 ((a : Int) + (b : Int)))) / 2) = (((a + b) / 2 : Nat) : Int) := by
  have e0 : wrap64 ((a : Int) + (b : Int)) = (a : Int) + (b : Int) := w64 (by omega) (by omega)
  rw [e0]
  have e : IntKind.u64.wrap ((a : Int) + (b : Int)) = ((a + b : Nat) : Int) := by
    show ((a : Int) + (b : Int)) % 18446744073709551616 = _
    omega
  rw [e, w64 (by omega) (by omega)]
  omega
theorem search_at (l : List Wd) (hl : l.length ≤ 100000) (hs : l.Pairwise (· ≤ ·)) (w : ByteArray) : ∃ i : Nat, Ev (fun k => slices_BinarySearch_string_string.f k (l.map wb) w) ((i : Int), decide (bw w ∈ l)) ∧ i ≤ l.length ∧ (∀ j (hj : j < l.length), j < i → l[j] < bw w) ∧ (∀ j (hj : j < l.length), i ≤ j → ¬ l[j] < bw w) := by
  have mono : ∀ a b (ha : a < l.length) (hb : b < l.length), a ≤ b → l[a] ≤ l[b] := by
    intro a b ha hb hab
    rcases Nat.lt_or_ge a b with h1 | h1
    · exact List.pairwise_iff_getElem.1 hs a b ha hb h1
    · obtain rfl : a = b := by omega
      exact List.le_refl _
  have key : ∀ d a b, b - a = d → a ≤ b → b ≤ l.length → (∀ i (hi : i < l.length), i < a → l[i] < bw w) → (∀ i (hi : i < l.length), b ≤ i → ¬ l[i] < bw w) →
      ∃ i : Nat, Ev (fun k => slices_BinarySearch_string_string.l0 k (l.map wb) w (l.length : Int) (a : Int) (b : Int)) ((i : Int), decide (bw w ∈ l)) ∧ i ≤ l.length ∧ (∀ j (hj : j < l.length), j < i → l[j] < bw w) ∧ (∀ j (hj : j < l.length), i ≤ j → ¬ l[j] < bw w) := by
    intro d
    induction d using Nat.strongRecOn with
    | _ d ih =>
      intro a b hd hab hb h1 h2
      rcases Nat.lt_or_ge a b with hlt | hge
      · have hm := half_eq (a := a) (b := b) (by omega)
        have hmid : (a + b) / 2 < l.length := by omega
        by_cases hc : l[(a + b) / 2] < bw w
        · obtain ⟨i, hi, hr⟩ := ih (b - ((a + b) / 2 + 1)) (by omega) ((a + b) / 2 + 1) b rfl (by omega) hb (fun i hi hia => by
            have h3 := mono i ((a + b) / 2) hi hmid (by omega)
            rcases (le_iff _ _).1 h3 with h4 | h4
            · exact lt_tr h4 hc
            · rw [h4]; exact hc) h2
          refine ⟨i, Ev.step (fun k => by unfold slices_BinarySearch_string_string.l0; rfl) (ev_pos (by omega) ?_), hr⟩
          rw [hm]
          refine ev_pos (by omega) (ev_pos (by rw [List.length_map]; omega) ?_)
          rw [rdOf_map_wb l _ hmid, less_eq, bw_wb]
          refine ev_some (ev_pos (decide_eq_true hc) ?_)
          rw [inc (by omega)]
          exact hi
        · obtain ⟨i, hi, hr⟩ := ih ((a + b) / 2 - a) (by omega) a ((a + b) / 2) rfl (by omega) (by omega) h1 (fun i hi hia h3 => by
            have h4 := mono ((a + b) / 2) i hmid hi hia
            rcases (le_iff _ _).1 h4 with h5 | h5
            · exact hc (lt_tr h5 h3)
            · exact hc (by rw [h5]; exact h3))
          refine ⟨i, Ev.step (fun k => by unfold slices_BinarySearch_string_string.l0; rfl) (ev_pos (by omega) ?_), hr⟩
          rw [hm]
          refine ev_pos (by omega) (ev_pos (by rw [List.length_map]; omega) ?_)
          rw [rdOf_map_wb l _ hmid, less_eq, bw_wb]
          exact ev_some (ev_neg (by simpa using hc) hi)
      · obtain rfl : a = b := by omega
        refine ⟨a, Ev.step (fun k => by unfold slices_BinarySearch_string_string.l0; rfl) (ev_neg (by omega) ?_), hb, h1, h2⟩
        by_cases hal : a < l.length
        · refine ev_pos (by omega) (ev_pos (by omega) (ev_pos (by rw [List.length_map]; omega) ?_))
          rw [rdOf_map_wb l a hal, toList_bw, toList_bw, bw_wb]
          refine ev_ite (fun hc => ev_eq ?_) (fun hc => ?_)
          · rw [decide_eq_true (hc ▸ List.getElem_mem hal)]
          · unfold slices_isNaN_string.f
            simp only [Option.bind_some, bne_self_eq_false, Bool.false_eq_true, if_false]
            refine ev_eq ?_
            rw [decide_eq_false]
            intro hm
            obtain ⟨j, hj, hje⟩ := List.getElem_of_mem hm
            rcases Nat.lt_or_ge j a with h3 | h3
            · have := h1 j hj h3
              rw [hje] at this
              exact lt_irr _ this
            · have h4 := mono a j hal hj h3
              rw [hje] at h4
              rcases (le_iff _ _).1 h4 with h5 | h5
              · exact h2 a hal (Nat.le_refl _) h5
              · exact hc h5
        · refine ev_neg (by omega) (ev_eq ?_)
          rw [decide_eq_false]
          intro hm
          obtain ⟨j, hj, hje⟩ := List.getElem_of_mem hm
          have := h1 j hj (by omega)
          rw [hje] at this
          exact lt_irr _ this
  obtain ⟨i, hi, hr⟩ := key _ 0 l.length rfl (Nat.zero_le _) (Nat.le_refl _) (fun i hi h => absurd h (Nat.not_lt_zero _)) (fun i hi h => absurd hi (by omega))
  refine ⟨i, ?_, hr⟩
  unfold slices_BinarySearch_string_string.f
  rw [List.length_map]
  exact hi
theorem search_word (l : List Wd) (hl : l.length ≤ 100000) (hs : l.Pairwise (· ≤ ·)) (w : ByteArray) : ∃ i, Ev (fun k => slices_BinarySearch_string_string.f k (l.map wb) w) (i, decide (bw w ∈ l)) := by
  obtain ⟨i, hi, _⟩ := search_at l hl hs w
  exact ⟨_, hi⟩
end Go.Proofs.YtcplbbflfgckbaaGreatDoor.Pl

