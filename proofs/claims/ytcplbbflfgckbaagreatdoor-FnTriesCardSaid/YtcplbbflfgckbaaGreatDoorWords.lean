/- Plain: what a valid trie answers, told by its words: the words, those under a prefix, unique and shared beginnings. -/
import Derived.Test.YtcplbbflfgckbaaGreatDoorX5
import Derived.Test.YtcplbbflfgckbaaGreatDoorX9
import Derived.Test.YtcplbbflfgckbaaGreatDoorX15
import Derived.Test.YtcplbbflfgckbaaGreatDoorTrim
import Derived.Test.YtcplbbflfgckbaaGreatDoorWordE
set_option linter.unusedVariables false
set_option linter.unusedSimpArgs false
namespace Go.Proofs.YtcplbbflfgckbaaGreatDoor.Pl
open Go.RowKit Go.Proofs.YtcplbbflfgckbaaGreatDoorW.PrintWords Go.Proofs.YtcplbbflfgckbaaGreatDoorW.PrintLast Go.Proofs.YtcplbbflfgckbaaGreatDoorW.PrintMore Go.Proofs.YtcplbbflfgckbaaGreatDoor.X

theorem ev_of {α : Type} {x : Option α} {r : α} (h : x = some r) : Ev (fun _ => x) r := h ▸ Ev.now r
/-- The words of a valid trie. -/
structure WOk (ws : List Wd) : Prop where
  ss : SS ws
  ok : ∀ w ∈ ws, okW w
  le : ws.length ≤ 40
theorem isT_cases (t : List ND) : (∃ ws, WOk ws ∧ t = trie ws) ∨ isT t = false := by
  cases h : isT t with
  | true =>
    obtain ⟨ws, h1, h2, h3, h4⟩ := (isT_iff t).1 h
    exact .inl ⟨ws, ⟨h1, h2, h3⟩, h4⟩
  | false => exact .inr rfl
section
variable {ws : List Wd} (h : WOk ws)
include h
theorem WOk.isT : isT (trie ws) = true := (isT_iff _).2 ⟨ws, h.ss, h.ok, h.le, rfl⟩
theorem WOk.tok : TOk (trie ws) (prefs ws) := ⟨prefP_trie h.ok h.le, fun p hp => (prefs_okW h.ok hp).1⟩
theorem WOk.len : (trie ws).length ≤ 481 := (trie_bound h.ok h.le).2
theorem WOk.len1 : 1 ≤ (trie ws).length := (trie_bound h.ok h.le).1
theorem WOk.size {w : Wd} (hw : w ∈ ws) : w.length ≤ 12 := (h.ok w hw).1
theorem WOk.trieT : Ev (fun k => impl_isTrie.f k (trie ws)) true := by
  have := isTrie_ev (trie ws) (by have := h.len; omega)
  rwa [h.isT] at this
theorem WOk.l2Trie : Ev (fun k => spec_l2Trie.f k (trie ws)) true := by
  have := l2Trie_ev (trie ws) (by have := h.len; omega)
  rwa [h.isT] at this
theorem WOk.l2Words : Ev (fun k => spec_l2Words.f k (trie ws)) (ws.map wb) := by
  obtain ⟨vs, h1, _, _, h4⟩ := l2Words_ev (trie ws) (by have := h.len; omega)
  rw [h4 _ h.tok, wordsP_trie h.ss] at h1
  exact h1
theorem WOk.words : Ev (fun k => impl_Trie_words.f k (trie ws)) (ws.map wb) := by
  have := words_ev h.tok.pre
  rwa [wordsP_trie h.ss] at this
end
theorem noT_i {t : List ND} (ht : t.length ≤ 2000000) (h : isT t = false) : Ev (fun k => impl_isTrie.f k t) false := by
  have := isTrie_ev t ht
  rwa [h] at this
theorem noT_s {t : List ND} (ht : t.length ≤ 2000000) (h : isT t = false) : Ev (fun k => spec_l2Trie.f k t) false := by
  have := l2Trie_ev t ht
  rwa [h] at this
theorem containsW_ev (l : List ByteArray) (x : ByteArray) (hl : l.length ≤ 1000000000) : Ev (fun k => slices_Contains_string_string.f k l x) (decide (bw x ∈ l.map bw)) := by
  unfold slices_Contains_string_string.f slices_Index_string_string.f
  have key : ∀ m i, l.length - i = m → i ≤ l.length → ∃ r : Int, Ev (fun k => slices_Index_string_string.l0 k l x (l.length : Int) (i : Nat)) r ∧ (0 ≤ r ↔ x ∈ l.drop i) := by
    intro m
    induction m with
    | zero =>
      intro i hm hi
      refine ⟨-1, Ev.step (fun k => by unfold slices_Index_string_string.l0; rfl) (ev_neg (by omega) (ev_eq rfl)), ?_⟩
      rw [List.drop_of_length_le (by omega)]
      simp
    | succ m ih =>
      intro i hm hi
      have hi' : i < l.length := by omega
      obtain ⟨r, h1, h2⟩ := ih (i + 1) (by omega) (by omega)
      rw [drop_cons hi' ByteArray.empty, List.mem_cons]
      by_cases e : x = l.getD i ByteArray.empty
      · exact ⟨i, Ev.step (fun k => by unfold slices_Index_string_string.l0; rfl) (ev_pos (by omega) (ev_pos (by omega) (ev_pos (by omega) (ev_pos (by rw [rdOf_nat]; exact toList_inj.2 e) (ev_eq rfl))))), ⟨fun _ => .inl e, fun _ => by omega⟩⟩
      · refine ⟨r, Ev.step (fun k => by unfold slices_Index_string_string.l0; rfl) (ev_pos (by omega) (ev_pos (by omega) (ev_pos (by omega) (ev_neg (by rw [rdOf_nat]; exact fun h => e (toList_inj.1 h)) ?_)))), ⟨fun h => .inr (h2.1 h), fun h => h2.2 (h.resolve_left e)⟩⟩
        rw [inc (by omega)]
        exact h1
  obtain ⟨r, h1, h2⟩ := key _ 0 rfl (Nat.zero_le _)
  rw [List.drop_zero] at h2
  exact Ev.bind h1 (ev_eq (decide_eq_decide.2 (h2.trans mem_map_bw.symm)))
theorem WOk.has {ws : List Wd} (h : WOk ws) (w : ByteArray) : Ev (fun k => impl_Trie_has.f k (trie ws) w) (decide (bw w ∈ ws)) := by
  unfold impl_Trie_has.f
  have := containsW_ev (ws.map wb) w (by have := h.le; rw [List.length_map]; omega)
  rw [bw_map_wb] at this
  exact Ev.bind h.words (Ev.bind this (ev_eq rfl))
theorem WOk.l2Has {ws : List Wd} (h : WOk ws) (w : ByteArray) : Ev (fun k => spec_l2Has.f k (ws.map wb) w) (decide (bw w ∈ ws)) := by
  have := l2Has_ev (ws.map wb) w (by have := h.le; rw [List.length_map]; omega)
  rwa [bw_map_wb] at this
theorem areKept_ev (t : List ND) (ht : t.length ≤ 2000000) (w : ByteArray) (hw : w.size ≤ 1000000) : Ev (fun k => impl_areKept.f k t w) (isT t && decide (okW (bw w))) := by
  unfold impl_areKept.f
  refine Ev.bind (isTrie_ev t ht) ?_
  cases isT t with
  | true => exact ev_pos rfl (Ev.bind (ev_of (isWord_eq w (by omega))) (ev_eq rfl))
  | false => exact ev_neg (by decide) (ev_eq rfl)
end Go.Proofs.YtcplbbflfgckbaaGreatDoor.Pl

