-- By gen.py (the session's own program over the kit's printer): functions of the program, each with its contract. Lean checks it.
import Derived.Test.YtcbjfflaamlpcaaX0
import Derived.Test.YtcbjfflaamlpcaaX13
import Derived.Test.YtcbjfflaamlpcaaX15
namespace Go.Proofs.Ytcbjfflaamlpcaa.X
open Go.RowKit Go.Proofs.YtcbjfflaamlpcaaW.PrintWords Go.Proofs.YtcbjfflaamlpcaaW.PrintLast Go.Proofs.YtcbjfflaamlpcaaW.PrintMore
attribute [local go_sem] max2_int min2_int max_two min_two max_three min_three max_four min_four   -- for this text's walks alone
set_option linter.unusedVariables false
set_option linter.unusedSimpArgs false

/-! ### impl_game_wins: function 53: a contract of our own -/
def impl_game_wins.f : Nat → List (S67) → Int → List ByteArray → Int → Option Bool
 | 0, _, _, _, _ => none
 | k + 1, l0, a1, l2, node => (impl_Trie_kids.f k l0 node).bind fun ks => G.anyM (fun c => (impl_game_isFatal.f l0 a1 l2 c).bind fun b => if b = true then some false else (impl_game_wins.f k l0 a1 l2 c).bind fun b2 => some (!b2)) ks
theorem impl_game_wins.mono : ∀ a0 a1 a2 a3 k, LeO (impl_game_wins.f k a0 a1 a2 a3) (impl_game_wins.f (k + 1) a0 a1 a2 a3) := by
 intro a0 a1 a2 a3 k
 induction k generalizing a3 with
 | zero => exact fun r h => by simp [impl_game_wins.f] at h
 | succ k ih => exact LeO.bind (impl_Trie_kids.mono _ _ _) (fun ks => G.anyM_le ks (fun c => LeO.bind (LeO.refl _) (fun b => LeO.ite (LeO.refl _) (LeO.bind (ih c) (fun _ => LeO.refl _)))))
/-- The game lies at G0, as told. -/
def impl_game_wins.At (G0 : Nat) (A0 : Option Addr) (c0 : Nat) (l0 : List (S67)) (a1 : Int) (A2 : Option Addr) (c2 : Nat) (l2 : List ByteArray) (w : World) : Prop :=
 Kd.C k67 w A0 l0.length l0 ∧ l0.length ≤ c0 ∧ Kd.C Kd.string w A2 l2.length l2 ∧ l2.length ≤ c2 ∧ w.heap[G0]? = some (.cells #[.slice A0 l0.length c0, .int .i64 a1, .slice A2 l2.length c2] 69 (0, 0))
theorem impl_game_wins.At.below {G0 : Nat} {A0 : Option Addr} {c0 : Nat} {l0 : List (S67)} {a1 : Int} {A2 : Option Addr} {c2 : Nat} {l2 : List ByteArray} {w W : World} (h : impl_game_wins.At G0 A0 c0 l0 a1 A2 c2 l2 w) (hb : Below w.heap.size w W) : impl_game_wins.At G0 A0 c0 l0 a1 A2 c2 l2 W :=
 ⟨Kd.C_below h.1 hb, h.2.1, Kd.C_below h.2.2.1 hb, h.2.2.2.1, blk_below h.2.2.2.2 hb⟩
theorem impl_game_wins.good {G0 : Nat} {A0 : Option Addr} {c0 : Nat} {l0 : List (S67)} {a1 : Int} {A2 : Option Addr} {c2 : Nat} {l2 : List ByteArray} {w : World} (hA : impl_game_wins.At G0 A0 c0 l0 a1 A2 c2 l2 w) (c : Int) (F : Option Bool)
  (hF : ∀ q W, impl_game_wins.At G0 A0 c0 l0 a1 A2 c2 l2 W → F = some q → Calls Try.prog 53 #[.pointer (some ⟨G0, 0, none⟩), .int .i64 c] W fun e w' => e = .returned (.bool q) ∧ Below W.heap.size W w') (r : Bool)
  (h : ((impl_game_isFatal.f l0 a1 l2 c).bind fun b => if b = true then some false else F.bind fun b2 => some (!b2)) = some r) :
  Calls Try.prog 60 #[.pointer (some ⟨G0, 0, none⟩), .int .i64 c] w fun e w' => e = .returned (.bool r) ∧ Below w.heap.size w w' := by
 obtain ⟨b, hb, h⟩ := Option.bind_eq_some_iff.1 h
 have cF := impl_game_isFatal.calls G0 A0 c0 l0 a1 A2 c2 l2 c b w hA.1 hA.2.1 hA.2.2.1 hA.2.2.2.1 hA.2.2.2.2 hb; have HA := Aside0.mk hA; clear hA hb
 cases b with
 | true =>
  rw [if_pos rfl] at h
  obtain rfl := Option.some.inj h
  clear h hF
  go_enter Try.func60, Try.ntmps60
  go_wp2_with (go_at_call 63; refine cF.mono ?_; rintro e w' ⟨rfl, hB⟩; clear cF)
  go_ret
  exact ⟨rfl, hB⟩
 | false =>
  rw [if_neg (by decide)] at h
  obtain ⟨b2, hb2, h⟩ := Option.bind_eq_some_iff.1 h
  obtain rfl := Option.some.inj h
  have cW := fun w1 (hB : Below w.heap.size w w1) => hF b2 w1 (HA.out.below hB) hb2
  clear h hF hb2
  go_enter Try.func60, Try.ntmps60
  go_wp2_with (first
   | (go_at_call 63; refine cF.mono ?_; rintro e w1 ⟨rfl, hB⟩; have cW1 := cW w1 hB; have HB := Aside0.mk hB; clear cF cW hB)
   | (go_at_call 53; refine cW1.mono ?_; rintro e w2 ⟨rfl, hB2⟩; clear cW1))
  go_ret
  exact ⟨rfl, HB.out.trans (hB2.mono HB.out.size)⟩
set_option maxHeartbeats 2000000 in
theorem impl_game_wins.calls (k : Nat) (G0 : Nat) (A0_0 : Option Addr) (c0_0 : Nat) (l0_0 : List (S67)) (a0_1 : Int) (A0_2 : Option Addr) (c0_2 : Nat) (l0_2 : List ByteArray) (a1 : Int) (r : Bool) (w : World) (hr0_0 : Kd.C k67 w A0_0 l0_0.length l0_0) (hc0_0 : l0_0.length ≤ c0_0) (hr0_2 : Kd.C Kd.string w A0_2 l0_2.length l0_2) (hc0_2 : l0_2.length ≤ c0_2) (hb0 : w.heap[G0]? = some (.cells #[.slice A0_0 l0_0.length c0_0, .int .i64 a0_1, .slice A0_2 l0_2.length c0_2] 69 (0, 0))) (h : impl_game_wins.f k l0_0 a0_1 l0_2 a1 = some r) :
  Calls Try.prog 53 #[.pointer (some ⟨G0, 0, none⟩), .int .i64 a1] w fun e w' => e = .returned (.bool r) ∧ Below w.heap.size w w' := by
 have key : ∀ k a1 r w, impl_game_wins.At G0 A0_0 c0_0 l0_0 a0_1 A0_2 c0_2 l0_2 w → impl_game_wins.f k l0_0 a0_1 l0_2 a1 = some r → Calls Try.prog 53 #[.pointer (some ⟨G0, 0, none⟩), .int .i64 a1] w fun e w' => e = .returned (.bool r) ∧ Below w.heap.size w w' := by
  clear h hr0_0 hc0_0 hr0_2 hc0_2 hb0 k a1 r w
  intro k
  induction k with
  | zero => intro a1 r w _ h; exact absurd h (by simp [impl_game_wins.f])
  | succ k ih =>
   intro a1 r w hA h
   obtain ⟨ks, hks, hany⟩ := Option.bind_eq_some_iff.1 (show (impl_Trie_kids.f k l0_0 a1).bind _ = some r from h)
   have ck := impl_Trie_kids.calls k A0_0 c0_0 l0_0 a1 ks w hA.1 hA.2.1 hks
   obtain ⟨i, hi⟩ := G.idx_of_anyM hany
   have hri : r = decide (i ≥ 0) := Option.some.inj (hany.symm.trans (G.anyM_of_idx hi).2)
   have hall := fun (j : Nat) x hx hj => G.idxM_all hi j x hx hj
   have hnone := G.idxM_none hi
   have cg : ∀ (c : Int) (q : Bool) (W : World), Below w.heap.size w W → ((impl_game_isFatal.f l0_0 a0_1 l0_2 c).bind fun b => if b = true then some false else (impl_game_wins.f k l0_0 a0_1 l0_2 c).bind fun b2 => some (!b2)) = some q → Calls Try.prog 60 #[.pointer (some ⟨G0, 0, none⟩), .int .i64 c] W fun e w' => e = .returned (.bool q) ∧ Below W.heap.size W w' :=
    fun c q W hW hq => impl_game_wins.good (hA.below hW) c _ (fun q2 W2 hA2 hq2 => ih c q2 W2 hA2 hq2) q hq
   have hcz0 : w.cell? ⟨G0, 0, none⟩ = some (.slice A0_0 l0_0.length c0_0) := (blk_cell hA.2.2.2.2 0).trans rfl
   have hu := Try.underlying30; have HALL := Aside0.mk hall; have HNONE := Aside0.mk hnone; have HRI := Aside0.mk hri; have CG := Aside0.mk cg; clear h hA hks hany hi hri hall hnone cg ih
   go_enter Try.func53, Try.ntmps53
   go_wp2_with (go_at_call 59; refine ck.mono ?_; rintro e w1 ⟨v, rfl, hR, hB1⟩; obtain ⟨Ak, c_, rfl⟩ := Kd.R_slice hR; have HK := Aside0.mk (Kd.R_reads' hR); have HB1 := Aside0.mk hB1; clear ck hR hB1 hcz0)
   go_loopg [14] ks.length (fun gg s14 wr => ∃ kk : Nat, kk ≤ ks.length ∧ ks.length - kk ≤ gg ∧ s14 = .int .i64 kk ∧ Aside0 (Below w.heap.size w wr) ∧ Aside0 (Kd.C (Kd.int .i64) wr Ak ks.length ks) ∧ Aside0 (∀ (j : Nat) y, j < kk → ks[j]? = some y → ((impl_game_isFatal.f l0_0 a0_1 l0_2 y).bind fun b => if b = true then some false else (impl_game_wins.f k l0_0 a0_1 l0_2 y).bind fun b2 => some (!b2)) = some false))
   case atStart => exact ⟨0, Nat.zero_le _, by omega, rfl, HB1, ⟨HK.out.2.2⟩, ⟨fun j y hj => absurd hj (Nat.not_lt_zero _)⟩⟩
   case round =>
    obtain ⟨kk, hkk, hg, rfl, HB, HC, HA⟩ := hrel
    have hlen := HC.out.2.1
    by_cases hlt : kk < ks.length
    ·have hltz : (kk : Int) < (ks.length : Int) := by omega
     obtain ⟨ad, rfl, hcell⟩ := Kd.at_int HC.out (kk : Int) (by omega) (by omega)
     have hx : ks[kk]? = some (rd ks (kk : Int)) := by simp [rd, List.getD, List.getElem?_eq_getElem hlt]
     obtain ⟨q, hq, hqr⟩ := HALL.out kk _ hx HA.out
     have hcall := CG.out (rd ks (kk : Int)) q wr HB.out hq; generalize rd ks (kk : Int) = y at hcell hx hcall hq
     simp only [Int.toNat_natCast] at hcell
     have HX := Aside0.mk hx; have HQR := Aside0.mk hqr; have HQ := Aside0.mk hq; clear hx hq hqr
     cases q with
     | true =>
      have hrk := HQR.out rfl; have HRK := Aside0.mk hrk; clear hrk
      go_wp2_with (go_at_call 60; refine hcall.mono ?_; rintro e w' ⟨rfl, hb⟩)
      go_ret
      exact ⟨by rw [HRI.out, HRK.out]; simp, HB.out.trans (hb.mono HB.out.size)⟩
     | false =>
      go_wp2_with (go_at_call 60; refine hcall.mono ?_; rintro e w' ⟨rfl, hb⟩)
      go_roundg (ks.length - (kk + 1))
      case measure => omega
      case rel =>
       refine ⟨kk + 1, by omega, by omega, by go_num, ⟨HB.out.trans (hb.mono HB.out.size)⟩, ⟨Kd.C_below HC.out hb⟩, ⟨fun j z hj hz => ?_⟩⟩
       by_cases e : j = kk
       ·subst e; rw [HX.out] at hz; cases hz; exact HQ.out
       ·exact HA.out j z (by omega) hz
    ·have hltz : ¬ (kk : Int) < (ks.length : Int) := by omega
     have hend : i = -1 := HNONE.out (fun j x hx => HA.out j x ax179 hx)
     have HE := Aside0.mk hend; clear hend
     go_wp2
     go_ret
     exact ⟨by rw [HRI.out, HE.out]; rfl, HB.out⟩
 exact key k a1 r w ⟨hr0_0, hc0_0, hr0_2, hc0_2, hb0⟩ h

end Go.Proofs.Ytcbjfflaamlpcaa.X
