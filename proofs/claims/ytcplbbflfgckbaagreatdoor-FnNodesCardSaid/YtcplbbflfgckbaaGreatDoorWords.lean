/- Plain: what a valid trie answers, told by its words: the words, those under a prefix, unique and shared beginnings. -/
import Derived.Test.YtcplbbflfgckbaaGreatDoorX8
import Derived.Test.YtcplbbflfgckbaaGreatDoorX10
import Derived.Test.YtcplbbflfgckbaaGreatDoorX15
import Derived.Test.YtcplbbflfgckbaaGreatDoorX16
import Derived.Test.YtcplbbflfgckbaaGreatDoorX0
import Derived.Test.YtcplbbflfgckbaaGreatDoorX14
import Derived.Test.YtcplbbflfgckbaaGreatDoorX2
import Derived.Test.YtcplbbflfgckbaaGreatDoorX6
import Derived.Test.YtcplbbflfgckbaaGreatDoorX9
import Derived.Test.YtcplbbflfgckbaaGreatDoorX4
import Derived.Test.YtcplbbflfgckbaaGreatDoorX7
import Derived.Test.YtcplbbflfgckbaaGreatDoorTrieE
import Derived.Test.YtcplbbflfgckbaaGreatDoorPrefs
import Derived.Test.YtcplbbflfgckbaaGreatDoorWordE


set_option linter.unusedVariables false
set_option linter.unusedSimpArgs false
namespace Go.Proofs.YtcplbbflfgckbaaGreatDoor.Pl
open Go.RowKit Go.Proofs.YtcplbbflfgckbaaGreatDoorW.PrintWords Go.Proofs.YtcplbbflfgckbaaGreatDoorW.PrintLast Go.Proofs.YtcplbbflfgckbaaGreatDoorW.PrintMore Go.Proofs.YtcplbbflfgckbaaGreatDoor.X

theorem ev_of {α : Type} {x : Option α} {r : α} (h : x = some r) : Ev (fun _ => x) r := h ▸ Ev.now r
/-- The words of a valid trie. -/
structure WOk (ws : List Wd) : Prop where
  ss : SS ws
  ok : ∀ w ∈ ws, okW w
  le : ws.length ≤ 40
theorem isT_cases (t : List ND) : (∃ ws, WOk ws ∧ t = trie ws) ∨ isT t = false := by
  cases h : isT t with
  | true =>
    obtain ⟨ws, h1, h2, h3, h4⟩ := (isT_iff t).1 h
    exact .inl ⟨ws, ⟨h1, h2, h3⟩, h4⟩
  | false => exact .inr rfl
section
variable {ws : List Wd} (h : WOk ws)
include h
theorem WOk.isT : isT (trie ws) = true := (isT_iff _).2 ⟨ws, h.ss, h.ok, h.le, rfl⟩
theorem WOk.tok : TOk (trie ws) (prefs ws) := ⟨prefP_trie h.ok h.le, fun p hp => (prefs_okW h.ok hp).1⟩
theorem WOk.len : (trie ws).length ≤ 481 := (trie_bound h.ok h.le).2
theorem WOk.size {w : Wd} (hw : w ∈ ws) : w.length ≤ 12 := (h.ok w hw).1
theorem WOk.trieT : Ev (fun k => impl_isTrie.f k (trie ws)) true := by
  have := isTrie_ev (trie ws) (by have := h.len; omega)
  rwa [h.isT] at this
theorem WOk.l2Trie : Ev (fun k => spec_l2Trie.f k (trie ws)) true := by
  have := l2Trie_ev (trie ws) (by have := h.len; omega)
  rwa [h.isT] at this
theorem WOk.l2Words : Ev (fun k => spec_l2Words.f k (trie ws)) (ws.map wb) := by
  obtain ⟨vs, h1, _, _, h4⟩ := l2Words_ev (trie ws) (by have := h.len; omega)
  rw [h4 _ h.tok, wordsP_trie h.ss] at h1
  exact h1
theorem WOk.words : Ev (fun k => impl_Trie_words.f k (trie ws)) (ws.map wb) := by
  have := words_ev h.tok.pre
  rwa [wordsP_trie h.ss] at this
end
theorem noT_i {t : List ND} (ht : t.length ≤ 2000000) (h : isT t = false) : Ev (fun k => impl_isTrie.f k t) false := by
  have := isTrie_ev t ht
  rwa [h] at this
theorem noT_s {t : List ND} (ht : t.length ≤ 2000000) (h : isT t = false) : Ev (fun k => spec_l2Trie.f k t) false := by
  have := l2Trie_ev t ht
  rwa [h] at this
theorem prefix_take {p w : Wd} : p <+: w ↔ p.length ≤ w.length ∧ w.take p.length = p := by
  constructor
  · intro h
    exact ⟨h.length_le, (List.prefix_iff_eq_take.1 h).symm⟩
  · rintro ⟨_, h2⟩
    rw [← h2]; exact List.take_prefix _ _
theorem isPrefixOf_eq (p w : Wd) : p.isPrefixOf w = (decide (p.length ≤ w.length) && (w.take p.length == p)) := by
  rw [Bool.eq_iff_iff, List.isPrefixOf_iff_prefix, prefix_take, Bool.and_eq_true, decide_eq_true_eq, beq_iff_eq]
theorem begins_eq (w : Wd) (p : ByteArray) : (decide (p.size ≤ (wb w).size) && (((wb w).extract 0 p.size).toList == p.toList)) = (bw p).isPrefixOf w := by
  rw [isPrefixOf_eq, wb_size, bw_size, extract_wb, toList_bw, toList_bw, bw_wb]
theorem map_filter_wb (ws : List Wd) (p : Wd → Bool) (q : ByteArray → Bool) (h : ∀ w, q (wb w) = p w) : (ws.map wb).filter q = (ws.filter p).map wb := by
  rw [List.filter_map]
  congr 1
  exact List.filter_congr (fun w _ => h w)
theorem l2Begins_eq (w : Wd) (p : ByteArray) : spec_l2Begins.f (wb w) p = some ((bw p).isPrefixOf w) := by
  rw [← begins_eq]
  unfold spec_l2Begins.f
  by_cases h : p.size ≤ (wb w).size
  · rw [if_pos (by omega), if_pos (by omega), if_pos (by omega), decide_eq_true h, Bool.true_and]
  · rw [if_neg (by omega), decide_eq_false h, Bool.false_and]
theorem WOk.under {ws : List Wd} (h : WOk ws) (p : ByteArray) : Ev (fun k => impl_Trie_under.f k (trie ws) p) ((underL ws (bw p)).map wb) := by
  unfold impl_Trie_under.f
  refine Ev.bind h.words (Ev.bind (a := (underL ws (bw p)).map wb) (ev_of ?_) (ev_eq rfl))
  unfold slices_DeleteFunc_string_string.f
  rw [if_neg (by have := h.le; rw [List.length_map]; omega)]
  congr 1
  refine map_filter_wb ws _ _ (fun w => ?_)
  unfold impl_Trie_under_1.f
  simp only [Option.getD_some]
  rw [begins_eq, Bool.not_not]
theorem areKept_ev (t : List ND) (ht : t.length ≤ 2000000) (w : ByteArray) (hw : w.size ≤ 1000000) : Ev (fun k => impl_areKept.f k t w) (isT t && decide (okW (bw w))) := by
  unfold impl_areKept.f
  refine Ev.bind (isTrie_ev t ht) ?_
  cases isT t with
  | true => exact ev_pos rfl (Ev.bind (ev_of (isWord_eq w (by omega))) (ev_eq rfl))
  | false => exact ev_neg (by decide) (ev_eq rfl)
end Go.Proofs.YtcplbbflfgckbaaGreatDoor.Pl

