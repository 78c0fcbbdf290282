/- Plain: when a book is valid, on both sides. -/
import Derived.Test.YtnjjchbhbicmoaaGreatDoorX4
import Derived.Test.YtnjjchbhbicmoaaGreatDoorX7
import Derived.Test.YtnjjchbhbicmoaaGreatDoorX11
import Derived.Test.YtnjjchbhbicmoaaGreatDoorX12
import Derived.Test.YtnjjchbhbicmoaaGreatDoorX14
import Derived.Test.YtnjjchbhbicmoaaGreatDoorX15
import Derived.Test.YtnjjchbhbicmoaaGreatDoorSplitE
import Derived.Test.YtnjjchbhbicmoaaGreatDoorWordE
import Derived.Test.YtnjjchbhbicmoaaGreatDoorKids
import Derived.Test.YtnjjchbhbicmoaaGreatDoorTrieE
set_option linter.unusedVariables false
set_option linter.unusedSimpArgs false
namespace Go.Proofs.YtnjjchbhbicmoaaGreatDoor.Pl
open Go.RowKit Go.Proofs.YtnjjchbhbicmoaaGreatDoorW.PrintWords Go.Proofs.YtnjjchbhbicmoaaGreatDoorW.PrintLast Go.Proofs.YtnjjchbhbicmoaaGreatDoorW.PrintMore Go.Proofs.YtnjjchbhbicmoaaGreatDoor.X

theorem equalS_ev (a b : List ByteArray) (ha : a.length ≤ 1000000000) : Ev (fun k => slices_Equal_string_string.f k a b) (decide (a = b)) := by
  unfold slices_Equal_string_string.f
  by_cases hl : a.length = b.length
  case neg => exact ev_neg (by omega) (ev_eq (by symm; rw [decide_eq_false_iff_not]; rintro rfl; exact hl rfl))
  refine ev_pos (by omega) ?_
  refine ev_eqlist (z := ByteArray.empty) (g := fun k i => slices_Equal_string_string.l0 k a b (a.length : Int) (i : Nat)) hl ?_ ?_
  · exact Ev.step (fun k => by unfold slices_Equal_string_string.l0; rfl) (ev_neg (by omega) (ev_eq rfl))
  · intro i hi R ih
    refine Ev.step (fun k => by unfold slices_Equal_string_string.l0; rfl) (ev_pos (by omega) (ev_pos (by omega) (ev_pos (by omega) (ev_pos (by omega) ?_))))
    rw [rdOf_nat, rdOf_nat, inc (by omega)]
    by_cases e : a.getD i ByteArray.empty = b.getD i ByteArray.empty
    · rw [decide_eq_true e, Bool.true_and]; exact ev_pos (toList_inj.2 e) ih
    · rw [decide_eq_false e, Bool.false_and]; exact ev_neg (fun h => e (toList_inj.1 h)) (ev_eq rfl)
theorem containsS_ev (l : List ByteArray) (x : ByteArray) (hl : l.length ≤ 1000000000) : Ev (fun k => slices_Contains_string_string.f k l x) (decide (bw x ∈ l.map bw)) := by
  unfold slices_Contains_string_string.f slices_Index_string_string.f
  have key : ∀ m i, l.length - i = m → i ≤ l.length → ∃ r : Int, Ev (fun k => slices_Index_string_string.l0 k l x (l.length : Int) (i : Nat)) r ∧ (0 ≤ r ↔ x ∈ l.drop i) := by
    intro m
    induction m with
    | zero =>
      intro i hm hi
      refine ⟨-1, Ev.step (fun k => by unfold slices_Index_string_string.l0; rfl) (ev_neg (by omega) (ev_eq rfl)), ?_⟩
      rw [List.drop_of_length_le (by omega)]
      simp
    | succ m ih =>
      intro i hm hi
      have hi' : i < l.length := by omega
      obtain ⟨r, h1, h2⟩ := ih (i + 1) (by omega) (by omega)
      rw [drop_cons hi' ByteArray.empty, List.mem_cons]
      by_cases e : x = l.getD i ByteArray.empty
      · exact ⟨i, Ev.step (fun k => by unfold slices_Index_string_string.l0; rfl) (ev_pos (by omega) (ev_pos (by omega) (ev_pos (by omega) (ev_pos (by rw [rdOf_nat]; exact toList_inj.2 e) (ev_eq rfl))))), ⟨fun _ => .inl e, fun _ => by omega⟩⟩
      · refine ⟨r, Ev.step (fun k => by unfold slices_Index_string_string.l0; rfl) (ev_pos (by omega) (ev_pos (by omega) (ev_pos (by omega) (ev_neg (by rw [rdOf_nat]; exact fun h => e (toList_inj.1 h)) ?_)))), ⟨fun h => .inr (h2.1 h), fun h => h2.2 (h.resolve_left e)⟩⟩
        rw [inc (by omega)]
        exact h1
  obtain ⟨r, h1, h2⟩ := key _ 0 rfl (Nat.zero_le _)
  rw [List.drop_zero] at h2
  exact Ev.bind h1 (ev_eq (decide_eq_decide.2 (h2.trans mem_map_bw.symm)))
/-- The words of a book's text. -/
def wordsS (s : ByteArray) : List Wd := if bw s = [] then [] else splitW 32 (bw s)
def badW (w : Wd) : Bool := decide (w = [] ∨ ¬ okW w)
/-- The words are as told. -/
def GoodW (ws : List Wd) : Prop := ws.length ≤ 40 ∧ (∀ w ∈ ws, w ≠ [] ∧ okW w) ∧ setW ws = ws
instance (ws : List Wd) : Decidable (GoodW ws) := by unfold GoodW; exact inferInstance
theorem wordsS_join (s : ByteArray) : Lib.join (wordsS s) [32] = bw s := by
  unfold wordsS
  by_cases h : bw s = []
  · rw [if_pos h, h]; rfl
  · rw [if_neg h]; exact join_split 32 (bw s)
theorem okW_no {w : Wd} (h : okW w) : (32 : UInt8) ∉ w := fun hm => by
  have := (h.2 _ hm).1
  exact absurd this (by decide)
theorem wordsS_of_join {ws : List Wd} (h : ∀ w ∈ ws, w ≠ [] ∧ okW w) : wordsS (wb (Lib.join ws [32])) = ws := by
  unfold wordsS
  rw [bw_wb]
  cases ws with
  | nil => rfl
  | cons w r =>
    have hw := (h w List.mem_cons_self).1
    rw [if_neg (by rw [Lib.join_cons]; intro e; exact hw (List.append_eq_nil_iff.1 e).1)]
    exact split_join (by simp) (fun x hx => okW_no (h x hx).2)
theorem GoodW.size {s : ByteArray} (h : GoodW (wordsS s)) : s.size ≤ 520 := by
  have h1 := join_length 32 12 (wordsS s) (fun w hw => (h.2.1 w hw).2.1)
  rw [wordsS_join, bw_size] at h1
  have := h.1
  omega
theorem wordsS_sizes (s : ByteArray) : (wordsS s).length ≤ s.size + 1 ∧ ∀ w ∈ wordsS s, w.length ≤ s.size := by
  unfold wordsS
  by_cases h : bw s = []
  · rw [if_pos h]; exact ⟨Nat.zero_le _, fun w hw => absurd hw (by simp)⟩
  · rw [if_neg h]
    have h1 := splitW_length 32 (bw s)
    rw [bw_size] at h1
    exact ⟨h1, fun w hw => by have := splitW_size 32 (bw s) w hw; rw [bw_size] at this; exact this⟩
theorem nil_iff (s : ByteArray) : s.toList = ([] : List UInt8) ↔ bw s = [] := by rw [toList_bw]
theorem wordsOf_eq (s a : ByteArray) (c : Int) (hs : s.size < 1000000000) : impl_Book_wordsOf.f s a c = some ((wordsS s).map wb) := by
  unfold impl_Book_wordsOf.f wordsS
  by_cases h : bw s = []
  · rw [if_pos ((nil_iff s).2 h), if_pos h]; rfl
  · rw [if_neg (fun e => h ((nil_iff s).1 e)), if_neg h, split_eq s hs]; rfl
theorem bad_eq (w : ByteArray) (hs : w.size ≤ 140737488351232) : impl_Book_trie_1.f w = some (badW (bw w)) := by
  unfold impl_Book_trie_1.f badW
  by_cases h : bw w = []
  · rw [if_pos ((nil_iff w).2 h), decide_eq_true (.inl h)]
  · rw [if_neg (fun e => h ((nil_iff w).1 e)), isWord_eq w hs]
    show some (!decide (okW (bw w))) = _
    congr 1
    by_cases ho : okW (bw w)
    · rw [decide_eq_true ho, decide_eq_false (fun h2 => h2.elim h (fun h3 => h3 ho))]; rfl
    · rw [decide_eq_false ho, decide_eq_true (.inr ho)]; rfl
theorem anyM_congr {α : Type} {F : α → Option Bool} {p : α → Bool} : ∀ {l : List α}, (∀ z ∈ l, F z = some (p z)) → G.anyM F l = some (l.any p)
  | [], _ => rfl
  | x :: l, h => by
    show ((F x).bind fun b => if b = true then some true else G.anyM F l) = some (p x || l.any p)
    rw [h x List.mem_cons_self, Option.bind_some]
    cases p x with
    | true => rfl
    | false => rw [if_neg (by decide)]; exact anyM_congr fun z hz => h z (List.mem_cons_of_mem _ hz)
theorem anyBad (ws : List Wd) : ((ws.map wb).any fun x => badW (bw x)) = decide (¬ ∀ w ∈ ws, w ≠ [] ∧ okW w) := by
  rw [Bool.eq_iff_iff, decide_eq_true_eq, List.any_eq_true]
  constructor
  · rintro ⟨x, hx, hb⟩ hall
    obtain ⟨w, hw, rfl⟩ := List.mem_map.1 hx
    rw [bw_wb] at hb
    unfold badW at hb
    rw [decide_eq_true_eq] at hb
    have := hall w hw
    exact hb.elim this.1 (fun h => h this.2)
  · intro h
    rcases Classical.not_forall.1 h with ⟨w, hw⟩
    rcases Classical.not_imp.1 hw with ⟨h1, h2⟩
    refine ⟨wb w, List.mem_map.2 ⟨w, h1, rfl⟩, ?_⟩
    rw [bw_wb]
    unfold badW
    rw [decide_eq_true_eq]
    by_cases h3 : w = []
    · exact .inl h3
    · exact .inr (fun h4 => h2 ⟨h3, h4⟩)
theorem map_wb_inj {a b : List Wd} : a.map wb = b.map wb ↔ a = b := by
  constructor
  · intro h
    have := congrArg (List.map bw) h
    rwa [bw_map_wb, bw_map_wb] at this
  · rintro rfl; rfl
theorem bookTrie_ev (s a : ByteArray) (c : Int) (hs : s.size < 1000000000) : Ev (fun k => impl_Book_trie.f k s a c) (if GoodW (wordsS s) then (trie (wordsS s), true) else ([], false)) := by
  unfold impl_Book_trie.f
  rw [wordsOf_eq s a c hs]
  have hz := wordsS_sizes s
  generalize wordsS s = ws at hz
  refine ev_some ?_
  by_cases hl : ws.length ≤ 40
  case neg =>
    rw [if_neg (fun h => hl h.1)]
    exact ev_pos (by rw [List.length_map]; omega) (ev_eq rfl)
  refine ev_neg (by rw [List.length_map]; omega) ?_
  have e1 : slices_ContainsFunc_string_string.f (ws.map wb) (fun z_ => impl_Book_trie_1.f z_) = some (decide (¬ ∀ w ∈ ws, w ≠ [] ∧ okW w)) := by
    rw [← anyBad]
    refine anyM_congr fun z hz2 => bad_eq z ?_
    obtain ⟨w, hw, rfl⟩ := List.mem_map.1 hz2
    rw [wb_size]; have := hz.2 w hw; omega
  rw [e1]
  refine ev_some ?_
  by_cases hall : ∀ w ∈ ws, w ≠ [] ∧ okW w
  case neg =>
    rw [if_neg (fun h => hall h.2.1)]
    exact ev_pos (decide_eq_true hall) (ev_eq rfl)
  refine ev_neg (by rw [decide_eq_true_eq]; exact fun h => h hall) ?_
  rw [set_eq ws (by omega)]
  refine ev_some (Ev.bind (equalS_ev _ _ (by rw [List.length_map]; have := setW_length ws; omega)) ?_)
  by_cases hset : setW ws = ws
  · rw [decide_eq_true (map_wb_inj.2 hset), if_pos ⟨hl, hall, hset⟩]
    refine ev_pos rfl (Ev.bind (trieOf_ev ws (by omega) ?_ (fun w hw => by have := (hall w hw).2.1; omega)) (ev_eq rfl))
    have := setW_SS ws
    rw [hset] at this
    exact this.imp (fun h => List.le_of_lt h)
  · rw [decide_eq_false (fun h => hset (map_wb_inj.1 h)), if_neg (fun h => hset h.2.2)]
    exact ev_neg (by decide) (ev_eq rfl)
/-- A book is valid. -/
def bookB (s a : ByteArray) (c : Int) : Bool := decide (GoodW (wordsS s) ∧ (0 ≤ c ∧ c ≤ 1000) ∧ bw a ∈ prefs (wordsS s))
theorem isBook_ev (s a : ByteArray) (c : Int) (hs : s.size < 1000000000) : Ev (fun k => impl_Book_isBook.f k s a c) (bookB s a c) := by
  unfold impl_Book_isBook.f
  refine Ev.bind (bookTrie_ev s a c hs) ?_
  unfold bookB
  by_cases hg : GoodW (wordsS s)
  case neg =>
    rw [if_neg hg, decide_eq_false (fun h => hg h.1)]
    exact ev_neg (by decide) (Ev.step (fun k => by unfold impl_Book_isBook.j0; rfl) (ev_pos rfl (ev_eq rfl)))
  rw [if_pos hg]
  refine ev_pos rfl ?_
  rw [in_eq]
  refine ev_some ?_
  by_cases hc : 0 ≤ c ∧ c ≤ 1000
  case neg =>
    rw [decide_eq_false hc, decide_eq_false (fun h => hc h.2.1)]
    exact Ev.step (fun k => by unfold impl_Book_isBook.j0; rfl) (ev_pos rfl (ev_eq rfl))
  rw [decide_eq_true hc]
  have hok : ∀ w ∈ wordsS s, okW w := fun w hw => (hg.2.1 w hw).2
  have hb := trie_bound hok hg.1
  refine Ev.step (fun k => by unfold impl_Book_isBook.j0; rfl) (ev_neg (by decide) (Ev.bind (prefixes_ev (trie (wordsS s)) (by omega)) ?_))
  rw [prefP_trie hok hg.1]
  refine Ev.bind (containsS_ev _ a (by rw [List.length_map]; rw [trie_length] at hb; omega)) (ev_eq ?_)
  rw [decide_eq_decide]
  rw [bw_map_wb]
  exact ⟨fun h => ⟨hg, hc, h⟩, fun h => h.2.2⟩
theorem nil_mem_iff (l : List Wd) : decide (bw (⟨#[]⟩ : ByteArray) ∈ (l.map wb).map bw) = decide (([] : Wd) ∈ l) := by
  rw [bw_map_wb]; rfl
theorem l12Words_ev (s a : ByteArray) (c : Int) (hs : s.size ≤ 1000) : ∃ W ok, Ev (fun k => spec_l12Words.f k s a c) (W, ok) ∧ ok = decide (GoodW (wordsS s)) ∧ (ok = true → W = (wordsS s).map wb) := by
  unfold spec_l12Words.f
  by_cases h0 : bw s = []
  · refine ⟨[], true, ev_pos ((nil_iff s).2 h0) (ev_eq rfl), ?_, fun _ => ?_⟩
    · unfold wordsS; rw [if_pos h0]; symm; rw [decide_eq_true_eq]
      exact ⟨Nat.zero_le _, fun w hw => absurd hw (by simp), setW_of_SS List.Pairwise.nil⟩
    · unfold wordsS; rw [if_pos h0]; rfl
  have hw : wordsS s = splitW 32 (bw s) := by unfold wordsS; rw [if_neg h0]
  have hz := wordsS_sizes s
  have hj := wordsS_join s
  have hne : wordsS s ≠ [] := by rw [hw]; obtain ⟨w, r, e⟩ := splitW_cons 32 (bw s); rw [e]; simp
  have hsp := l1SplitS_ev s (by omega)
  rw [← hw] at hsp
  generalize wordsS s = ws at hz hj hne hsp
  have hset := l2Set_ev (ws.map wb) (by rw [List.length_map]; omega) (fun x hx => by
    obtain ⟨w, hw2, rfl⟩ := List.mem_map.1 hx
    rw [wb_size]; have := hz.2 w hw2; omega)
  rw [bw_map_wb] at hset
  have hhas := l2Has_ev (ws.map wb) (⟨#[]⟩ : ByteArray) (by rw [List.length_map]; omega)
  rw [nil_mem_iff] at hhas
  unfold refSet at hset
  by_cases hall : ∀ w ∈ ws, okW w
  case neg =>
    rw [if_neg hall] at hset
    refine ⟨[], false, ev_neg (fun e => h0 ((nil_iff s).1 e)) (Ev.bind hsp (Ev.bind hset (ev_neg (by decide) (ev_eq rfl)))), ?_, fun h => absurd h (by decide)⟩
    symm; rw [decide_eq_false_iff_not]; exact fun h => hall fun w hw2 => (h.2.1 w hw2).2
  rw [if_pos hall] at hset
  by_cases hl : (setW ws).length ≤ 40
  case neg =>
    rw [decide_eq_false hl] at hset
    refine ⟨(setW ws).map wb, false, ev_neg (fun e => h0 ((nil_iff s).1 e)) (Ev.bind hsp (Ev.bind hset (ev_neg (by simp) (ev_eq rfl)))), ?_, fun h => absurd h (by decide)⟩
    symm; rw [decide_eq_false_iff_not]; exact fun h => hl (by rw [h.2.2]; exact h.1)
  rw [decide_eq_true hl] at hset
  by_cases hn : ([] : Wd) ∈ ws
  · rw [decide_eq_true hn] at hhas
    refine ⟨(setW ws).map wb, false, ev_neg (fun e => h0 ((nil_iff s).1 e)) (Ev.bind hsp (Ev.bind hset (ev_pos rfl (Ev.bind hhas (ev_pos rfl (ev_eq rfl)))))), ?_, fun h => absurd h (by decide)⟩
    symm; rw [decide_eq_false_iff_not]; exact fun h => (h.2.1 _ hn).1 rfl
  rw [decide_eq_false hn] at hhas
  have hgood : ∀ w ∈ ws, w ≠ [] ∧ okW w := fun w hw2 => ⟨fun e => hn (e ▸ hw2), hall w hw2⟩
  have hgs : ∀ w ∈ setW ws, w ≠ [] ∧ okW w := fun w hw2 => hgood w ((mem_setW _ _).1 hw2)
  have hjn := joined_ev (setW ws) (by omega) (fun w hw2 => by have := (hgs w hw2).2.1; omega)
  refine ⟨(setW ws).map wb, _, ev_neg (fun e => h0 ((nil_iff s).1 e)) (Ev.bind hsp (Ev.bind hset (ev_pos rfl (Ev.bind hhas (ev_neg (by decide) (Ev.bind hjn (ev_eq rfl))))))), ?_, ?_⟩
  · rw [Bool.eq_iff_iff, beq_iff_eq, toList_inj, decide_eq_true_eq]
    constructor
    · intro e
      have e2 : Lib.join (setW ws) [32] = bw s := by rw [← e, bw_wb]
      have h1 := wordsS_of_join hgs
      rw [e2, wb_bw] at h1
      have h2 := wordsS_of_join hgood
      rw [hj, wb_bw] at h2
      have h3 : setW ws = ws := h1.symm.trans h2
      exact ⟨by rw [← h3]; exact hl, hgood, h3⟩
    · intro h
      refine bw_inj ?_
      rw [bw_wb, h.2.2, hj]
  · intro hb
    rw [beq_iff_eq, toList_inj] at hb
    have e2 : Lib.join (setW ws) [32] = bw s := by rw [← hb, bw_wb]
    have h1 := wordsS_of_join hgs
    rw [e2, wb_bw] at h1
    have h2 := wordsS_of_join hgood
    rw [hj, wb_bw] at h2
    rw [h1.symm.trans h2]
theorem l12Good_ev (s a : ByteArray) (c : Int) (hs : s.size < 1000000000) (ha : a.size ≤ 1000000000) : Ev (fun k => spec_l12Good.f k s a c) (bookB s a c) := by
  unfold spec_l12Good.f bookB
  have stop : ∀ b : Bool, b = true → Ev (fun k => spec_l12Good.j0 k b s a c) false := fun b hb => by
    rw [hb]; exact Ev.step (fun k => by unfold spec_l12Good.j0; rfl) (ev_pos rfl (ev_eq rfl))
  by_cases hsz : s.size ≤ 520
  case neg =>
    rw [decide_eq_false (fun h => hsz h.1.size)]
    exact ev_pos (by omega) (stop _ rfl)
  refine ev_neg (by omega) (Ev.bind (l2Word_ev a (by omega)) ?_)
  by_cases hw : okW (bw a)
  case neg =>
    rw [decide_eq_false hw, decide_eq_false (fun h => hw (prefs_okW (fun w hw2 => (h.1.2.1 w hw2).2) h.2.2))]
    exact ev_neg (by decide) (stop _ rfl)
  rw [decide_eq_true hw, l1In_eq]
  refine ev_pos rfl (ev_some ?_)
  by_cases hc : 0 ≤ c ∧ c ≤ 1000
  case neg =>
    rw [decide_eq_false hc, decide_eq_false (fun h => hc h.2.1)]
    exact stop _ rfl
  rw [decide_eq_true hc]
  obtain ⟨W, ok, h1, h2, h3⟩ := l12Words_ev s a c (by omega)
  refine Ev.step (fun k => by unfold spec_l12Good.j0; rfl) (ev_neg (by decide) (Ev.bind h1 ?_))
  by_cases hg : GoodW (wordsS s)
  case neg =>
    rw [decide_eq_false hg] at h2
    subst h2
    rw [decide_eq_false (fun h => hg h.1)]
    exact ev_neg (by simp) (ev_eq rfl)
  rw [decide_eq_true hg] at h2
  subst h2
  obtain rfl := h3 rfl
  have hok : ∀ w ∈ wordsS s, okW w := fun w hw => (hg.2.1 w hw).2
  obtain ⟨r, r1, r2⟩ := l2Node_ev (gok_trie hok hg.1) a ha
  refine ev_pos rfl (Ev.bind (l2Of_ev (wordsS s) (by have := hg.1; omega) (fun w hw => by have := (hok w hw).1; omega)) (Ev.bind r1 (ev_eq ?_)))
  rw [decide_eq_decide]
  exact ⟨fun h => ⟨hg, hc, r2.1 h⟩, fun h => r2.2 h.2.2⟩
end Go.Proofs.YtnjjchbhbicmoaaGreatDoor.Pl
