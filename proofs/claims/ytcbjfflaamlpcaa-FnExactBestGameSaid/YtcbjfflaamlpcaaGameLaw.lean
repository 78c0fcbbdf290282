/- Plain: what the laws about tries share: the turning over, the comparing, the size. -/
import Derived.Test.YtcbjfflaamlpcaaX2
import Derived.Test.YtcbjfflaamlpcaaX3
import Derived.Test.YtcbjfflaamlpcaaTrieB
set_option linter.unusedVariables false
set_option linter.unusedSimpArgs false
namespace Go.Proofs.Ytcbjfflaamlpcaa.Pl
open Go.RowKit Go.Proofs.YtcbjfflaamlpcaaW.PrintWords Go.Proofs.YtcbjfflaamlpcaaW.PrintLast Go.Proofs.YtcbjfflaamlpcaaW.PrintMore Go.Proofs.Ytcbjfflaamlpcaa.X

abbrev LND := S80
def cv (x : LND) : ND := ⟨x.f0, x.f1, x.f2⟩
theorem toTrie_ev (l : List LND) (hl : l.length ≤ 2000000) : Ev (fun k => laws_toTrie.f k l) (l.map cv) := by
  unfold laws_toTrie.f
  refine Ev.bind (a := l.map cv) ?_ (ev_eq rfl)
  unfold laws_toNodeS.f
  refine ev_pos (by omega) (ev_pos (by omega) ?_)
  have h := ev_copy (d := zND) (z := z67) (xs := l.map cv) (g := fun k ys i => laws_toNodeS.l0 k l ys (i : Nat)) (fun k ys i hi hy => by
    rw [List.length_map] at hi hy
    show laws_toNodeS.l0 (k + 1) l ys (i : Nat) = _
    conv => lhs; unfold laws_toNodeS.l0 laws_toNode.f
    rw [if_pos (by omega), if_pos (by omega)]
    show (if (i : Int) < (ys.length : Int) then _ else _) = _
    rw [if_pos (by omega), inc (by omega)]
    have e : (l.map cv).getD i zND = cv (rd_T80 l (i : Int)) := by
      show _ = cv (l.getD (i : Int).toNat _)
      rw [Int.toNat_natCast, List.getD_eq_getElem?_getD, List.getD_eq_getElem?_getD, List.getElem?_map, List.getElem?_eq_getElem hi]; rfl
    rw [e, Int.toNat_natCast]; rfl) (fun k ys => by
    show laws_toNodeS.l0 (k + 1) l ys ((l.map cv).length : Nat) = _
    unfold laws_toNodeS.l0
    rw [List.length_map, if_neg (by omega)])
  rw [List.length_map] at h
  rw [Int.toNat_natCast]
  exact h
theorem eqTrie_ev (a b : List ND) (ha : a.length ≤ 2000000) : Ev (fun k => laws_eqTrie.f k a b) (decide (a = b)) := by
  unfold laws_eqTrie.f
  refine Ev.bind (a := decide (a = b)) ?_ (by cases decide (a = b) <;> first | exact ev_pos rfl (ev_eq rfl) | exact ev_neg (by decide) (ev_eq rfl))
  unfold laws_eqNodeS.f
  by_cases hl : a.length = b.length
  case neg => exact ev_neg (by omega) (ev_eq (by symm; rw [decide_eq_false_iff_not]; rintro rfl; exact hl rfl))
  refine ev_pos (by omega) ?_
  refine ev_eqlist (z := zND) (g := fun k i => laws_eqNodeS.l0 k a b (i : Nat)) hl ?_ ?_
  · exact Ev.step (fun k => by unfold laws_eqNodeS.l0; rfl) (ev_neg (by omega) (ev_eq rfl))
  · intro i hi R ih
    refine Ev.step (fun k => by unfold laws_eqNodeS.l0 laws_eqNode.f; rfl) (ev_pos (by omega) (ev_pos (by omega) (ev_pos (by omega) ?_)))
    rw [rd_nd hi, rd_nd (show i < b.length by omega), List.getD_eq_getElem?_getD, List.getD_eq_getElem?_getD, List.getElem?_eq_getElem hi, List.getElem?_eq_getElem (show i < b.length by omega), Option.getD_some, Option.getD_some, inc (by omega)]
    generalize a[i] = x
    generalize b[i] = y
    obtain ⟨x0, x1, x2⟩ := x
    obtain ⟨y0, y1, y2⟩ := y
    by_cases h0 : x0 = y0
    case neg => rw [if_neg h0, decide_eq_false (by intro h; cases h; exact h0 rfl)]; exact ev_some (ev_neg (by decide) (ev_eq rfl))
    by_cases h1 : x1 = y1
    case neg => rw [if_pos h0, if_neg h1, decide_eq_false (by intro h; cases h; exact h1 rfl)]; exact ev_some (ev_neg (by decide) (ev_eq rfl))
    by_cases h2 : x2 = y2
    case neg => rw [if_pos h0, if_pos h1, if_pos (by simpa using h2), decide_eq_false (by intro h; cases h; exact h2 rfl)]; exact ev_some (ev_neg (by decide) (ev_eq rfl))
    subst h0 h1 h2
    rw [if_pos rfl, if_pos rfl, if_neg (by simp), decide_eq_true rfl, Bool.true_and]
    exact ev_some (ev_pos rfl ih)
theorem szTrie_eq (l : List LND) (m : Nat) (hm : m ≤ 1048576) (hl : l.length * 24 ≤ 140737488351232) : laws_szTrie.f l m = some (if l.length ≤ m then (((m - l.length : Nat)) : Int) else -1) := by
  unfold laws_szTrie.f laws_szNodeS.f
  rw [w64 (by omega) (by omega)]
  by_cases h : l.length ≤ m
  · rw [if_neg (by omega), if_pos h]
    show (if (m : Int) - (l.length : Int) < 0 then _ else _) = _
    rw [if_neg (by omega)]; congr 1; omega
  · rw [if_pos (by omega), if_neg h]; rfl
/-- The size is asked first: what is too great is not compared. -/
theorem ev_size {l : List LND} (hl : l.length * 24 ≤ 140737488351232) {F : Nat → Int → Option Bool} (h : l.length ≤ 1048576 → Ev (fun k => F k (((1048576 - l.length : Nat)) : Int)) true) : Ev (fun k => (laws_szTrie.f l 1048576).bind fun t => if t < 0 then some true else F k t) true := by
  have e := szTrie_eq l 1048576 (Nat.le_refl _) hl
  rw [show ((1048576 : Nat) : Int) = 1048576 from rfl] at e
  rw [e]
  by_cases hc : l.length ≤ 1048576
  · rw [if_pos hc]
    exact ev_some (f := fun k t => if t < 0 then some true else F k t) (ev_neg (by omega) (h hc))
  · rw [if_neg hc]
    exact ev_some (f := fun k t => if t < 0 then some true else F k t) (ev_pos (by decide) (ev_eq rfl))
end Go.Proofs.Ytcbjfflaamlpcaa.Pl
