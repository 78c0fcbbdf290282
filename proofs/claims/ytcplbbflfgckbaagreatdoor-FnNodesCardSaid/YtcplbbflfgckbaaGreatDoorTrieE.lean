/- Plain: the program's trie of words, and when it takes a trie for valid. -/
import Derived.Test.YtcplbbflfgckbaaGreatDoorX12
import Derived.Test.YtcplbbflfgckbaaGreatDoorX14
import Derived.Test.YtcplbbflfgckbaaGreatDoorTrieD
import Derived.Test.YtcplbbflfgckbaaGreatDoorSetE
set_option linter.unusedVariables false
set_option linter.unusedSimpArgs false
namespace Go.Proofs.YtcplbbflfgckbaaGreatDoor.Pl
open Go.RowKit Go.Proofs.YtcplbbflfgckbaaGreatDoorW.PrintWords Go.Proofs.YtcplbbflfgckbaaGreatDoorW.PrintLast Go.Proofs.YtcplbbflfgckbaaGreatDoorW.PrintMore Go.Proofs.YtcplbbflfgckbaaGreatDoor.X

/-- The map from prefixes to places, behind n of them. -/
def placesM (ps : List Wd) (n : Nat) : List (ByteArray × Int) := ((List.range n).map fun j => (wb (ps.getD j []), (j : Int))).reverse
theorem placesM_succ (ps : List Wd) (n : Nat) : placesM ps (n + 1) = (wb (ps.getD n []), (n : Int)) :: placesM ps n := by
  unfold placesM
  rw [List.range_succ, List.map_append, List.reverse_append]; rfl
theorem placesM_length (ps : List Wd) (n : Nat) : (placesM ps n).length = n := by simp [placesM]
theorem placesM_get {ps : List Wd} (hn : ps.Nodup) {q : Wd} (hq : q ∈ ps) : ∀ n, n ≤ ps.length → ps.idxOf q < n → G.mapGet (placesM ps n) (wb q) = (ps.idxOf q : Int)
  | 0, _, h => absurd h (Nat.not_lt_zero _)
  | n + 1, hl, h => by
    have hj := List.idxOf_lt_length_of_mem hq
    have hjv : ps[ps.idxOf q] = q := List.getElem_idxOf hj
    have hnl : n < ps.length := hl
    rw [placesM_succ]
    unfold G.mapGet
    have e : ps.getD n [] = ps[n] := by rw [List.getD_eq_getElem?_getD, List.getElem?_eq_getElem hnl, Option.getD_some]
    rw [e]
    have hb : (wb ps[n]).data.toList = ps[n] := bw_wb _
    have hb2 : (wb q).data.toList = q := bw_wb _
    simp only [hb, hb2]
    by_cases hc : ps[n] = q
    · rw [if_pos hc]
      have hp := List.pairwise_iff_getElem.1 hn
      rcases Nat.lt_or_ge (ps.idxOf q) n with h3 | h3
      · exact absurd (hjv.trans hc.symm) (hp _ _ hj hnl h3)
      · omega
    · rw [if_neg hc]
      refine placesM_get hn hq n (by omega) ?_
      have : ps.idxOf q ≠ n := by
        rintro rfl
        exact hc hjv
      omega
theorem trieOf_nodes (ws : List Wd) (hw : ws.length ≤ 100000) (hso : ws.Pairwise (· ≤ ·)) (hl : (prefs ws).length ≤ 100000) (hs : ∀ p ∈ prefs ws, p.length ≤ 1000000) :
    Ev (fun k => impl_trieOf.l2 k (ws.map wb) ((prefs ws).map wb) (((prefs ws).map wb).length : Int) 0 [] []) (trie ws) := by
  have key : ∀ d i, (prefs ws).length - i = d → i ≤ (prefs ws).length → Ev (fun k => impl_trieOf.l2 k (ws.map wb) ((prefs ws).map wb) (((prefs ws).map wb).length : Int) i (placesM (prefs ws) i) ((trie ws).take i)) (trie ws) := by
    intro d
    induction d with
    | zero =>
      intro i hd hi
      refine Ev.step (fun k => by unfold impl_trieOf.l2; rfl) (ev_neg (by rw [List.length_map]; omega) (ev_eq ?_))
      rw [List.take_of_length_le (by rw [trie_length]; omega)]
    | succ d ih =>
      intro i hd hi
      have hi' : i < (prefs ws).length := by omega
      have hi2 : i < (trie ws).length := by rw [trie_length]; exact hi'
      have hmem := List.getElem_mem hi'
      have hsz := hs _ hmem
      have htk : ((trie ws).take i).length = i := by rw [List.length_take]; omega
      have hn : (trie ws)[i] = nodeOf ws (prefs ws) (prefs ws)[i] := by simp [trie]
      have hnext : ∀ nd : ND, nd = (trie ws)[i] → Ev (fun k => impl_trieOf.l2 k (ws.map wb) ((prefs ws).map wb) (((prefs ws).map wb).length : Int) ((i + 1 : Nat) : Int) (placesM (prefs ws) (i + 1)) ((trie ws).take i ++ [nd])) (trie ws) := by
        rintro nd rfl
        rw [← List.take_succ_eq_append_getElem hi2]
        exact ih (i + 1) (by omega) (by omega)
      have eg : (prefs ws).getD i [] = (prefs ws)[i] := by rw [List.getD_eq_getElem?_getD, List.getElem?_eq_getElem hi', Option.getD_some]
      refine Ev.step (fun k => by unfold impl_trieOf.l2; rfl) (ev_pos (by rw [List.length_map]; omega) (ev_pos (by omega) (ev_pos (by rw [List.length_map]; omega) ?_)))
      rw [rdOf_map_wb _ _ hi']
      refine ev_pos (by rw [placesM_length]; omega) (ev_pos (by rw [wb_size]; omega) (ev_pos (by omega) (ev_pos (by omega) (ev_some ?_))))
      obtain ⟨j, hj⟩ := search_word ws hw hso (wb (prefs ws)[i])
      rw [bw_wb] at hj
      refine Ev.bind hj ?_
      rw [toList_bw, bw_wb, inc (by omega)]
      rw [show (wb (prefs ws)[i], (i : Int)) :: placesM (prefs ws) i = placesM (prefs ws) (i + 1) by rw [placesM_succ, eg]]
      by_cases he : (prefs ws)[i] = []
      · refine ev_pos he (ev_pos (by rw [htk]; omega) (hnext _ ?_))
        rw [hn]; unfold nodeOf; rw [if_pos he]
      · have hlp := List.length_pos_iff.2 he
        refine ev_neg he ?_
        have e1 : wrap64 (((wb (prefs ws)[i]).size : Int) - 1) = (((prefs ws)[i].length - 1 : Nat) : Int) := by
          rw [wb_size, w64 (by omega) (by omega)]; omega
        rw [e1]
        refine ev_pos (by omega) (ev_pos (by rw [wb_size]; omega) (ev_pos (by rw [wb_size]; omega) ?_))
        rw [Int.toNat_natCast, extract_wb, ← List.dropLast_eq_take, last_ltr he]
        have hdm := dropLast_mem hmem
        have hjl := List.idxOf_lt_length_of_mem hdm
        have hjv : (prefs ws)[(prefs ws).idxOf (prefs ws)[i].dropLast] = (prefs ws)[i].dropLast := List.getElem_idxOf hjl
        have hjk : (prefs ws).idxOf (prefs ws)[i].dropLast < i := (prefs_SS ws).idx_lt hjl hi' (by rw [hjv]; exact dropLast_lt he)
        rw [placesM_get (prefs_SS ws).nodup hdm (i + 1) (by omega) (by omega)]
        refine ev_pos (by rw [wb_size, List.length_dropLast]; omega) (ev_pos (by rw [htk]; omega) (hnext _ ?_))
        rw [hn]; unfold nodeOf; rw [if_neg he]
  have := key _ 0 rfl (Nat.zero_le _)
  rw [List.take_zero] at this
  exact this
theorem trieOf_ev (ws : List Wd) (hw : ws.length ≤ 100) (hso : ws.Pairwise (· ≤ ·)) (hs : ∀ w ∈ ws, w.length ≤ 100) : Ev (fun k => impl_trieOf.f k (ws.map wb)) (trie ws) := by
  have hpl := prefs_length (ws := ws) (m := 100) hs
  have hps : ∀ p ∈ prefs ws, p.length ≤ 100 := fun p hp => by
    rcases (mem_prefs ws p).1 hp with rfl | ⟨w, hw, hpw⟩
    · simp
    · exact Nat.le_trans hpw.length_le (hs w hw)
  have hnodes := trieOf_nodes ws (by omega) hso (by omega) (fun p hp => by have := hps p hp; omega)
  have inner : ∀ (i : Nat) (hi : i < ws.length) (A : List Wd), A.length ≤ 1 + 100 * i → Ev (fun k => impl_trieOf.l0 k (ws.map wb) ((A ++ inits ws[i]).map wb) (ws.map wb) ((ws.map wb).length : Int) ((i + 1 : Nat) : Int)) (trie ws) →
      ∀ d n, ws[i].length - n = d → n ≤ ws[i].length → Ev (fun k => impl_trieOf.l1 k (ws.map wb) ((A ++ (inits ws[i]).take n).map wb) (wb ws[i]) (ws.map wb) ((ws.map wb).length : Int) i ((wb ws[i]).size : Int) (n : Int)) (trie ws) := by
    intro i hi A hA hnext d
    have hwl := hs _ (List.getElem_mem hi)
    have hil : (inits ws[i]).length = ws[i].length := by simp [inits]
    induction d with
    | zero =>
      intro n hd hn
      obtain rfl : n = ws[i].length := by omega
      refine Ev.step (fun k => by unfold impl_trieOf.l1; rfl) (ev_neg (by rw [wb_size]; omega) ?_)
      rw [inc (by omega), List.take_of_length_le (by omega)]
      exact hnext
    | succ d ih =>
      intro n hd hn
      have hn' : n < ws[i].length := by omega
      refine Ev.step (fun k => by unfold impl_trieOf.l1; rfl) (ev_pos (by rw [wb_size]; omega) ?_)
      rw [inc (by omega)]
      refine ev_pos (by omega) (ev_pos (by rw [wb_size]; omega) (ev_pos (by rw [List.length_map, List.length_append, List.length_take]; omega) ?_))
      rw [Int.toNat_natCast, extract_wb]
      have := ih (n + 1) (by omega) (by omega)
      rw [List.take_succ_eq_append_getElem (by omega), ← List.append_assoc, List.map_append] at this
      have e : (inits ws[i])[n]'(by omega) = ws[i].take (n + 1) := by simp [inits]
      rw [e] at this
      exact this
  have outer : ∀ d i, ws.length - i = d → i ≤ ws.length → Ev (fun k => impl_trieOf.l0 k (ws.map wb) (([] :: (ws.take i).flatMap inits).map wb) (ws.map wb) ((ws.map wb).length : Int) i) (trie ws) := by
    intro d
    induction d with
    | zero =>
      intro i hd hi
      obtain rfl : i = ws.length := by omega
      refine Ev.step (fun k => by unfold impl_trieOf.l0; rfl) (ev_neg (by rw [List.length_map]; omega) ?_)
      have hfl := flat_length (ws := ws) (m := 100) hs
      rw [List.take_length, set_eq _ (by rw [List.length_cons]; omega)]
      exact ev_some hnodes
    | succ d ih =>
      intro i hd hi
      have hi' : i < ws.length := by omega
      refine Ev.step (fun k => by unfold impl_trieOf.l0; rfl) (ev_pos (by rw [List.length_map]; omega) (ev_pos (by omega) (ev_pos (by rw [List.length_map]; omega) ?_)))
      rw [rdOf_map_wb _ _ hi']
      have hfl := flat_length (ws := ws.take i) (m := 100) (fun w hw => hs w (List.mem_of_mem_take hw))
      rw [List.length_take] at hfl
      have hm : min i ws.length = i := by omega
      rw [hm] at hfl
      have h0 := inner i hi' ([] :: (ws.take i).flatMap inits) (by rw [List.length_cons]; omega) (by
        have := ih (i + 1) (by omega) (by omega)
        rw [List.take_succ_eq_append_getElem hi', List.flatMap_append] at this
        simpa using this) _ 0 rfl (Nat.zero_le _)
      rw [List.take_zero, List.append_nil] at h0
      exact h0
  have := outer _ 0 rfl (Nat.zero_le _)
  exact this
theorem anyM_some {α : Type} (p : α → Bool) (l : List α) : G.anyM (fun z => some (p z)) l = some (l.any p) := by
  induction l with
  | nil => rfl
  | cons x l ih =>
    unfold G.anyM
    simp only [Option.bind_some]
    rw [ih, List.any_cons]
    cases p x <;> rfl
theorem isTrie_ev (t : List ND) (ht : t.length ≤ 2000000) : Ev (fun k => impl_isTrie.f k t) (isT t) := by
  unfold impl_isTrie.f
  refine Ev.bind (prefixes_ev t ht) ?_
  cases hP : prefP t with
  | none =>
    refine ev_neg (by decide) ?_
    refine Ev.step (fun k => by unfold impl_isTrie.j0; rfl) (ev_pos rfl (ev_eq ?_))
    symm; rw [Bool.eq_false_iff, Ne, isT_iff, isT_prog]
    rintro ⟨P, h, _⟩
    rw [hP] at h; cases h
  | some P =>
    have hPs := prefP_spec hP
    refine ev_pos rfl ?_
    have ea : slices_ContainsFunc_string_string.f (P.map wb) (fun z_ => impl_isTrie_1.f z_) = some ((P.map wb).any fun z => decide ((z.size : Int) > 12)) := anyM_some _ _
    simp only [ea]
    refine ev_some ?_
    have hT := isT_prog t
    by_cases hs : ∀ p ∈ P, p.length ≤ 12
    case neg =>
      have e : ((P.map wb).any fun z => decide ((z.size : Int) > 12)) = true := by
        rw [List.any_eq_true]
        simp only [Classical.not_forall] at hs
        obtain ⟨p, hp, hlen⟩ := hs
        exact ⟨wb p, List.mem_map.2 ⟨p, hp, rfl⟩, decide_eq_true (by rw [wb_size]; omega)⟩
      rw [e]
      refine Ev.step (fun k => by unfold impl_isTrie.j0; rfl) (ev_pos rfl (ev_eq ?_))
      symm; rw [Bool.eq_false_iff, Ne, isT_iff, isT_prog]
      rintro ⟨P', h1, h2, _⟩
      rw [hP] at h1; cases h1
      exact hs h2
    have e : ((P.map wb).any fun z => decide ((z.size : Int) > 12)) = false := by
      rw [Bool.eq_false_iff, Ne, List.any_eq_true]
      rintro ⟨z, hz, hd⟩
      obtain ⟨p, hp, rfl⟩ := List.mem_map.1 hz
      have := of_decide_eq_true hd
      rw [wb_size] at this
      have := hs p hp
      omega
    rw [e]
    refine Ev.step (fun k => by unfold impl_isTrie.j0; rfl) (ev_neg (by decide) ?_)
    refine Ev.bind (words_ev hP) ?_
    have hwl := wordsP_length t P
    have no : ¬ ((wordsP t P).length ≤ 40 ∧ (wordsP t P).Pairwise (· ≤ ·) ∧ trie (wordsP t P) = t) → false = isT t := by
      intro h
      symm; rw [Bool.eq_false_iff, Ne, isT_iff, isT_prog]
      rintro ⟨P', h1, h2, h3, h4, h5⟩
      rw [hP] at h1; cases h1
      exact h ⟨h3, h4, h5⟩
    refine ev_ite (fun hc => ?_) (fun hc => ev_eq (no fun h => hc (by rw [List.length_map]; omega)))
    rw [List.length_map] at hc
    refine Ev.bind (isSorted_ev _ (by omega)) ?_
    refine ev_ite (fun hc2 => ?_) (fun hc2 => ev_eq (no fun h => hc2 (decide_eq_true h.2.1)))
    have hso := of_decide_eq_true hc2
    have hlen : ∀ w ∈ wordsP t P, w.length ≤ 12 := fun w hw => hs w (wordsP_mem hPs.2.2.1 hw)
    refine Ev.bind (trieOf_ev _ (by omega) hso (fun w hw => by have := hlen w hw; omega)) ?_
    have htl := prefs_length (ws := wordsP t P) (m := 12) hlen
    refine Ev.bind (equal_ev _ t (by rw [trie_length]; omega)) (ev_eq ?_)
    rw [Bool.eq_iff_iff, isT_iff, hT, decide_eq_true_eq]
    constructor
    · intro h
      exact ⟨P, hP, hs, by omega, hso, h⟩
    · rintro ⟨P', h1, _, _, _, h5⟩
      rw [hP] at h1; cases h1
      exact h5
end Go.Proofs.YtcplbbflfgckbaaGreatDoor.Pl

