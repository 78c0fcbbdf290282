/- Proof texts that recur in the walks, each with a name: an argument that is found by its own tactics. No conditions. By squeeze.py, the session's own program. -/
import Derived.Test.YtcplbbflfgckbaaGreatDoorProg
import Derived.Below
import Derived.Deep.Draws
import Derived.Deep.AppendLies
import Derived.Maps.AppendAt
import Derived.OwnWalk
import Derived.Laws.BytesArg
import Derived.Laws.MakeOwn
import Derived.Laws.OwnMore
import Derived.Deep.OwnRows
import Derived.Tactics
import Derived.Lib.ConvBytes
import Derived.Laws.Slices
import Derived.WalkKit
import Derived.KernelRfl
import Derived.RowKit3
import Derived.Deep.LoopGhost
import Derived.Deep.QuietTactic
import Derived.BigQuiet
import Derived.WideLaws
import Derived.Deep.DeepCutAuto
import Derived.Deep.CutBlock
import Derived.Deep.RegionHeld3
import Derived.Laws.Rows
import Derived.Lib.AppendStr
import Derived.ArgAppend
import Derived.Laws.IdiomCopy
import Derived.OrdersHeld
import Derived.Laws.BitsLemmas
import Derived.RowKit
import Derived.Test.YtcplbbflfgckbaaGreatDoorShelf
import Derived.Test.YtcplbbflfgckbaaGreatDoorK
import Derived.Test.YtcplbbflfgckbaaGreatDoorBase
import Derived.Test.YtcplbbflfgckbaaGreatDoorMaps
import Derived.Test.YtcplbbflfgckbaaGreatDoorRg
namespace Go.Proofs.YtcplbbflfgckbaaGreatDoor.X
open Go.RowKit Go.Proofs.YtcplbbflfgckbaaGreatDoorW.PrintWords Go.Proofs.YtcplbbflfgckbaaGreatDoorW.PrintLast Go.Proofs.YtcplbbflfgckbaaGreatDoorW.PrintMore
set_option linter.unusedVariables false
theorem ax1 {p : Prop} (h : p := by
  rw [if_neg c11] at H
  exact absurd H (by simp)) : p := h
theorem ax2 {p : Prop} (h : p := by
  rw [if_neg c4] at H
  exact absurd H (by simp)) : p := h
theorem ax3 {p : Prop} (h : p := by
  rw [if_neg c14] at H
  exact absurd H (by simp)) : p := h
theorem ax4 {p : Prop} (h : p := by
  rw [if_neg c10] at H
  exact absurd H (by simp)) : p := h
theorem ax5 {p : Prop} (h : p := by
  rw [if_neg c6] at H
  exact absurd H (by simp)) : p := h
theorem ax6 {p : Prop} (h : p := by
  rw [if_neg c5] at H
  exact absurd H (by simp)) : p := h
theorem ax7 {p : Prop} (h : p := by
  rw [if_neg c7] at H
  exact absurd H (by simp)) : p := h
theorem ax8 {p : Prop} (h : p := by
  rw [if_neg c29] at H
  exact absurd H (by simp)) : p := h
theorem ax9 {p : Prop} (h : p := by
  rw [if_neg c26] at H
  exact absurd H (by simp)) : p := h
theorem ax10 {p : Prop} (h : p := by
  intro w' s0
  go_simp
  with_reducible rfl) : p := h
theorem ax11 {p : Prop} (h : p := by
  simp only [Act.put, List.setIfInBounds_toArray, List.set_cons_zero, List.set_cons_succ, i64_w, i32_w]
  rfl) : p := h
theorem ax12 {p : Prop} (h : p := by
  rw [if_neg c3] at H
  have c3b0 := decide_eq_false c3; clear c3; obtain rfl := Option.some.inj H
  go_wp2
  go_ret
  exact ⟨(by first | rfl | (simp; done) | (simp [*]; done) | (simp [bne]; done)), (by repeat (first | exact Drawn0.refl _ | apply Drawn0.step))⟩) : p := h
theorem ax13 {p : Prop} (h : p := by
  rw [if_neg c9] at H
  exact absurd H (by simp)) : p := h
theorem ax14 {p : Prop} (h : p := by
  rw [if_neg c33] at H
  exact absurd H (by simp)) : p := h
theorem ax15 {p : Prop} (h : p := by
  rw [if_neg c31] at H
  exact absurd H (by simp)) : p := h
theorem ax16 {p : Prop} (h : p := by
  simp only [putAll, Act.put, List.setIfInBounds_toArray, List.set_cons_zero, List.set_cons_succ]
  rfl) : p := h
theorem ax17 {p : Prop} (h : p := by go_simp; rfl) : p := h
theorem ax18 {p : Prop} (h : p := by first | rfl | (simp; done) | (simp [*]; done) | (simp [bne]; done)) : p := h
theorem ax19 {p : Prop} (h : p := by repeat (first | exact Drawn0.refl _ | apply Drawn0.step)) : p := h
theorem ax20 {p : Prop} (h : p := by first | (go_simp; done) | (go_simp; rfl)) : p := h
theorem ax21 {p : Prop} (h : p := by first | rfl | (simp [errW_none, errW_some] <;> rfl) | (simp [*, errW_none, errW_some] <;> rfl)) : p := h
theorem ax22 {p : Prop} (h : p := by exact (Reps.one (show Kd.M Kd.string _ _ _ (⟨#[]⟩ : ByteArray) [.string (⟨#[]⟩ : ByteArray)] from rfl) (Reps.none _ _))) : p := h
theorem ax23 {p : Prop} (h : p := by first | (with_reducible assumption) | assumption) : p := h
theorem ax24 {p : Prop} (h : p := by rw [hw]; exact (by (with_reducible repeat (first | refine blk_drewN ?_ _ | refine blk_drew ?_ | refine blk_alloc ?_ _)); refine blk_put (cs := #[.int .i64 ((rd_T74 y109 x17_1).f0), .int .i64 ((rd_T74 y109 x17_1).f1), .bool false]) ?_ 2 _ rfl; (with_reducible repeat (first | refine blk_drewN ?_ _ | refine blk_drew ?_ | refine blk_alloc ?_ _)); refine blk_put (cs := #[.int .i64 ((rd_T74 y109 x17_1).f0), .int .i64 0, .bool false]) ?_ 1 _ rfl; (with_reducible repeat (first | refine blk_drewN ?_ _ | refine blk_drew ?_ | refine blk_alloc ?_ _)); refine blk_put (cs := #[.int .i64 0, .int .i64 0, .bool false]) ?_ 0 _ rfl; (with_reducible repeat (first | refine blk_drewN ?_ _ | refine blk_drew ?_ | refine blk_alloc ?_ _)); exact BK114.out)) : p := h
theorem ax25 {p : Prop} (h : p := by rw [hw]; exact (by repeat (first | (with_reducible first | exact HB.out | apply below_alloc | apply pw_below_drewN | apply below_drew1 | refine below_set ?_ GE114.out) | exact HB.out))) : p := h
theorem ax26 {p : Prop} (h : p := by (try simp only [List.map_toArray, List.map_cons, List.map_nil]); first | done | rfl | (simp only [List.length_drop, List.length_take]; rfl)) : p := h
theorem ax27 {p : Prop} (h : p := by exact (fun _ _ => trivial)) : p := h
theorem ax28 {p : Prop} (h : p := by exact (bS HB)) : p := h
theorem ax29 {p : Prop} (h : p := by first | exact Kd.R_nil _ _ _ _ _ | exact Kd.N_nil _ _ _ _ _ | exact Kd.V_nil _ _ _ _ _ | exact Kd.Q_nil _ _ _ _ _ | exact Kd.S_nil _ _ _ _ _) : p := h
theorem ax30 {p : Prop} (h : p := by repeat (first | exact (Kd.C_below HR0_0.out HB.out) | (with_reducible refine Kd.C_alloc ?_ _) | (with_reducible refine Kd.C_drewN ?_ _) | (with_reducible refine Kd.C_drew ?_))) : p := h
theorem ax31 {p : Prop} (h : p := by exact (Reps.none _ _)) : p := h
theorem ax32 {p : Prop} (h : p := by (with_reducible repeat (first | apply Kd.R_alloc | apply Kd.R_drewN | apply Kd.R_drew)); exact Kd.R_mono HO_3.out (fun _ hk => hk.2)) : p := h
theorem ax33 {p : Prop} (h : p := by (try simp only [List.map_toArray, List.map_cons, List.map_nil]); first | done | (simp only [hji4]; rfl) | rfl | (simp only [List.length_drop, List.length_take]; rfl)) : p := h
theorem ax34 {p : Prop} (h : p := by first | rfl | (simp; done) | (simp only [← hji4] <;> (first | rfl | simp)) | (simp [*]; done)) : p := h
theorem ax35 {p : Prop} (h : p := by have := HK1.out; have := HK2.out; omega) : p := h
theorem ax36 {p : Prop} (h : p := by rw [hg]; exact (bS HB)) : p := h
theorem ax37 {p : Prop} (h : p := by repeat (first | (with_reducible first | exact MP155.out | apply G.MapIs.alloc | apply G.MapIs.drewN | apply G.MapIs.drew) | exact MP155.out)) : p := h
theorem ax38 {p : Prop} (h : p := by have h1_ := LMc28.out; have h2_ := LMc29.out; exact G.wf_i64 h1_ h2_) : p := h
theorem ax39 {p : Prop} (h : p := by exact show G.MapIs Tryz.prog 9 3 _ gm155 x156000_2 from (by repeat (first | (with_reducible first | exact MP155.out | apply G.MapIs.alloc | apply G.MapIs.drewN | apply G.MapIs.drew) | exact MP155.out))) : p := h
theorem ax40 {p : Prop} (h : p := by injection e_ with e_; exact e_.symm) : p := h
theorem ax41 {p : Prop} (h : p := by repeat (first | (with_reducible first | exact HB.out | apply below_alloc | apply pw_below_drewN | apply below_drew1 | refine below_set ?_ GE144.out | refine below_set ?_ GE156.out) | exact HB.out)) : p := h
theorem ax42 {p : Prop} (h : p := by repeat (first | exact (Kd.C_below HR0.out HB.out) | (with_reducible refine Kd.C_alloc ?_ _) | (with_reducible refine Kd.C_drewN ?_ _) | (with_reducible refine Kd.C_drew ?_))) : p := h
theorem ax43 {p : Prop} (h : p := by rw [← hq_]; exact show G.MapIs Tryz.prog 9 3 _ gm155 y158 from (by repeat (first | (with_reducible first | exact MP155.out | apply G.MapIs.alloc | apply G.MapIs.drewN | apply G.MapIs.drew) | exact MP155.out))) : p := h
theorem ax44 {p : Prop} (h : p := by (with_reducible repeat (first | apply Kd.R_alloc | apply Kd.R_drewN | apply Kd.R_drew)); exact Kd.R_mono (Kd.R_far (p := ⟨gb161, 2, none⟩) (Kd.R_far (p := ⟨gb161, 1, none⟩) (Kd.R_far (p := ⟨gb161, 0, none⟩) (Kd.R_mono HO_157000.out (fun k_ hk => (⟨hk, hk.2⟩ : _ ∧ k_ ≠ gb161))) (fun _ hk => hk.2) (.int .i64 (-1))) (fun _ hk => hk.2) (.int .i64 (-1))) (fun _ hk => hk.2) (.bool t160)) (fun _ hk => hk.1.2)) : p := h
theorem ax45 {p : Prop} (h : p := by first | rfl | (simp; done) | (simp only [← hji5] <;> (first | rfl | simp)) | (simp [*]; done)) : p := h
theorem ax46 {p : Prop} (h : p := by repeat (first | exact (Kd.R_reads' HO181.out).2.2 | (with_reducible refine Kd.C_alloc ?_ _) | (with_reducible refine Kd.C_drewN ?_ _) | (with_reducible refine Kd.C_drew ?_))) : p := h
theorem ax47 {p : Prop} (h : p := by repeat (first | exact HR0.out | (with_reducible refine Kd.C_alloc ?_ _) | (with_reducible refine Kd.C_drewN ?_ _) | (with_reducible refine Kd.C_drew ?_))) : p := h
theorem ax48 {p : Prop} (h : p := by repeat (first | (with_reducible first | exact HI0.out | apply IsS82.alloc | apply IsS82.drewN | apply IsS82.drew | apply IsS82.set_1 | apply IsS82.set_2) | exact HI0.out)) : p := h
theorem ax49 {p : Prop} (h : p := by repeat (first | (with_reducible first | exact HB.out | apply below_alloc | apply pw_below_drewN | apply below_drew1 | refine below_set ?_ (Aside0.out (by assumption)) | refine below_set ?_ (IsS82.ge HI0.out)) | exact HB.out)) : p := h
theorem ax50 {p : Prop} (h : p := by repeat (first | (with_reducible first | exact HK.out | apply KeepBut.set_ | apply keep_drewN | apply keep_drew | apply keep_alloc) | exact HK.out)) : p := h
theorem ax51 {p : Prop} (h : p := by repeat (first | (with_reducible first | exact HB.out | apply below_alloc | apply pw_below_drewN | apply below_drew1 | refine below_set ?_ (IsS82.ge HI0.out)) | exact HB.out)) : p := h
theorem ax52 {p : Prop} (h : p := by have := HK1.out; first | omega | exact Nat.le_refl _) : p := h
theorem ax53 {p : Prop} (h : p := by have := HK1.out; have := HJ10.out; first | omega | exact Nat.le_refl _) : p := h
theorem ax54 {p : Prop} (h : p := by exact (Reps.one (show Kd.M Kd.string _ _ _ (⟨#[97]⟩ : ByteArray) [.string (⟨#[97]⟩ : ByteArray)] from rfl) (Reps.one (show Kd.M Kd.string _ _ _ (⟨#[98]⟩ : ByteArray) [.string (⟨#[98]⟩ : ByteArray)] from rfl) (Reps.one (show Kd.M Kd.string _ _ _ (⟨#[99]⟩ : ByteArray) [.string (⟨#[99]⟩ : ByteArray)] from rfl) (Reps.none _ _))))) : p := h
theorem ax55 {p : Prop} (h : p := by exact (keep_size (w := w) (g := g) (row := none) (by repeat (first | (with_reducible first | exact HK.out | apply KeepBut.set_ | apply keep_drewN | apply keep_drew | apply keep_alloc) | exact HK.out)))) : p := h
theorem ax56 {p : Prop} (h : p := by have := HK1.out; have := HJ10.out; have := HJ21.out; omega) : p := h
theorem ax57 {p : Prop} (h : p := by repeat (first | (with_reducible first | exact HB.out | apply below_alloc | apply pw_below_drewN | apply below_drew1 | refine below_set ?_ (IsS82.ge HI295.out)) | exact HB.out)) : p := h
theorem ax58 {p : Prop} (h : p := by assumption) : p := h
theorem ax59 {p : Prop} (h : p := by (with_reducible repeat (first | refine blk_drewN ?_ _ | refine blk_drew ?_ | refine blk_alloc ?_ _)); refine blk_put (cs := #[.slice none 0 0]) ?_ 0 _ rfl; (with_reducible repeat (first | refine blk_drewN ?_ _ | refine blk_drew ?_ | refine blk_alloc ?_ _)); exact BK302.out) : p := h
theorem ax60 {p : Prop} (h : p := by intro x_ hx_ W_ hW_ r_ h_; exact impl_TrieOf_1.calls x_ r_ W_ h_) : p := h
theorem ax61 {p : Prop} (h : p := by (with_reducible repeat (first | refine blk_drewN ?_ _ | refine blk_drew ?_ | refine blk_alloc ?_ _)); refine blk_put (cs := #[.slice none 0 0]) ?_ 0 _ rfl; (with_reducible repeat (first | refine blk_drewN ?_ _ | refine blk_drew ?_ | refine blk_alloc ?_ _)); exact BK309.out) : p := h
theorem ax62 {p : Prop} (h : p := by (with_reducible repeat (first | apply Kd.V_alloc | apply Kd.V_drewN | apply Kd.V_drew)); exact HO_0.out) : p := h
theorem ax63 {p : Prop} (h : p := by repeat (first | exact (Kd.V_reads' HO329.out).2.2 | (with_reducible refine Kd.C_alloc ?_ _) | (with_reducible refine Kd.C_drewN ?_ _) | (with_reducible refine Kd.C_drew ?_))) : p := h
theorem ax64 {p : Prop} (h : p := by (with_reducible repeat (first | apply Kd.V_alloc | apply Kd.V_drewN | apply Kd.V_drew)); exact HO329.out) : p := h
theorem ax65 {p : Prop} (h : p := by (with_reducible repeat (first | apply Kd.V_alloc | apply Kd.V_drewN | apply Kd.V_drew)); exact HO343.out) : p := h
theorem ax66 {p : Prop} (h : p := by exact (Reps.one (show Kd.M Kd.string _ _ _ a1 [.string a1] from rfl) (Reps.none _ _))) : p := h
theorem ax67 {p : Prop} (h : p := by simp only [putAll, Act.put, List.setIfInBounds_toArray, List.set_cons_zero, List.set_cons_succ]) : p := h
theorem ax68 {p : Prop} (h : p := by (with_reducible repeat (first | apply Kd.R_alloc | apply Kd.R_drewN | apply Kd.R_drew)); exact Kd.R_mono HO332.out (fun _ hk => ⟨hk.1.1, hk.2⟩)) : p := h
theorem ax69 {p : Prop} (h : p := by (with_reducible repeat (first | apply Kd.R_alloc | apply Kd.R_drewN | apply Kd.R_drew)); exact Kd.R_mono HO335.out (fun _ hk => ⟨hk.1.1, hk.2⟩)) : p := h
theorem ax70 {p : Prop} (h : p := by (with_reducible repeat (first | apply Kd.V_alloc | apply Kd.V_drewN | apply Kd.V_drew)); exact Kd.V_mono HO_0.out (fun _ hk => ⟨hk.1.1, ⟨hk.1.2, hk.2⟩⟩)) : p := h
theorem ax71 {p : Prop} (h : p := by (with_reducible repeat (first | apply Kd.V_alloc | apply Kd.V_drewN | apply Kd.V_drew)); exact Kd.V_mono HO_0.out (fun _ hk => ⟨hk.1.1, ⟨hk.2, hk.1.2⟩⟩)) : p := h
theorem ax72 {p : Prop} (h : p := by exact (fun k_ hk => ⟨(Nat.le_trans (bS HB) hk), Kd.fresh' (Kd.R_lt (rX HO335)) k_ hk⟩)) : p := h
theorem ax73 {p : Prop} (h : p := by (with_reducible repeat (first | apply Kd.V_alloc | apply Kd.V_drewN | apply Kd.V_drew)); exact Kd.V_mono HO_0.out (fun _ hk => ⟨⟨hk.1, hk.2.2⟩, hk.2.1⟩)) : p := h
theorem ax74 {p : Prop} (h : p := by repeat (first | exact (Kd.V_reads' HO351.out).2.2 | (with_reducible refine Kd.C_alloc ?_ _) | (with_reducible refine Kd.C_drewN ?_ _) | (with_reducible refine Kd.C_drew ?_))) : p := h
theorem ax75 {p : Prop} (h : p := by (with_reducible repeat (first | apply Kd.V_alloc | apply Kd.V_drewN | apply Kd.V_drew)); exact HO351.out) : p := h
theorem ax76 {p : Prop} (h : p := by (with_reducible repeat (first | apply Kd.V_alloc | apply Kd.V_drewN | apply Kd.V_drew)); exact HO365.out) : p := h
theorem ax77 {p : Prop} (h : p := by (with_reducible repeat (first | apply Kd.R_alloc | apply Kd.R_drewN | apply Kd.R_drew)); exact Kd.R_mono HO354.out (fun _ hk => ⟨hk.1.1, hk.2⟩)) : p := h
theorem ax78 {p : Prop} (h : p := by (with_reducible repeat (first | apply Kd.R_alloc | apply Kd.R_drewN | apply Kd.R_drew)); exact Kd.R_mono HO357.out (fun _ hk => ⟨hk.1.1, hk.2⟩)) : p := h
theorem ax79 {p : Prop} (h : p := by exact (fun k_ hk => ⟨(Nat.le_trans (bS HB) hk), Kd.fresh' (Kd.R_lt (rX HO357)) k_ hk⟩)) : p := h
theorem ax80 {p : Prop} (h : p := by (with_reducible repeat (first | apply Kd.V_alloc | apply Kd.V_drewN | apply Kd.V_drew)); exact HO_3.out) : p := h
theorem ax81 {p : Prop} (h : p := by rw [← hq_]; exact (by (with_reducible repeat (first | apply Kd.V_alloc | apply Kd.V_drewN | apply Kd.V_drew)); exact HO_3.out)) : p := h
theorem ax82 {p : Prop} (h : p := by (with_reducible repeat (first | apply Kd.R_alloc | apply Kd.R_drewN | apply Kd.R_drew)); exact Kd.R_mono (Kd.R_far (p := ⟨gb385, 2, none⟩) (Kd.R_far (p := ⟨gb385, 1, none⟩) (Kd.R_far (p := ⟨gb385, 0, none⟩) (Kd.R_mono HO_383000.out (fun k_ hk => (⟨hk, hk.2⟩ : _ ∧ k_ ≠ gb385))) (fun _ hk => hk.2) (.int .i64 (-1))) (fun _ hk => hk.2) (.int .i64 (-1))) (fun _ hk => hk.2) (.bool t384)) (fun _ hk => hk.1.2)) : p := h
theorem ax83 {p : Prop} (h : p := by rw [hw]; exact (by repeat (first | (with_reducible first | exact HB.out | apply below_alloc | apply pw_below_drewN | apply below_drew1 | refine below_set ?_ GE370.out | refine below_set ?_ GE382.out | refine below_set ?_ GE385.out) | exact HB.out))) : p := h
theorem ax84 {p : Prop} (h : p := by repeat (first | exact (Kd.V_reads' HO_3.out).2.2 | (with_reducible refine Kd.C_alloc ?_ _) | (with_reducible refine Kd.C_drewN ?_ _) | (with_reducible refine Kd.C_drew ?_))) : p := h
theorem ax85 {p : Prop} (h : p := by (with_reducible repeat (first | apply Kd.V_alloc | apply Kd.V_drewN | apply Kd.V_drew)); exact HO_4.out) : p := h
theorem ax86 {p : Prop} (h : p := by (with_reducible repeat (first | refine blk_drewN ?_ _ | refine blk_drew ?_ | refine blk_alloc ?_ _)); refine blk_put (cs := #[.slice none 0 0]) ?_ 0 _ rfl; (with_reducible repeat (first | refine blk_drewN ?_ _ | refine blk_drew ?_ | refine blk_alloc ?_ _)); exact BK405.out) : p := h
theorem ax87 {p : Prop} (h : p := by rw [hg]; exact Nat.ne_of_lt (blk_lt (g := gb413) (o := .cells #[.slice A0_0 l0_0.length c0_0] 26 (0, 0)) aU)) : p := h
theorem ax88 {p : Prop} (h : p := by rw [hg]; exact Nat.ne_of_gt (blk_lt (g := gb413) (o := .cells #[.slice A0_0 l0_0.length c0_0] 26 (0, 0)) aU)) : p := h
theorem ax89 {p : Prop} (h : p := by rw [hg]; exact (keep_size (w := w) (g := g) (row := none) (by repeat (first | (with_reducible first | exact HK.out | apply KeepBut.set_ | apply keep_drewN | apply keep_drew | apply keep_alloc) | exact HK.out)))) : p := h
theorem ax90 {p : Prop} (h : p := by rw [hg]; exact Nat.ne_of_lt (IsS82.lt (show IsS82 w0 _ g s0_0 s0_1 s0_2 from (by repeat (first | (with_reducible first | exact HI0.out | apply IsS82.alloc | apply IsS82.drewN | apply IsS82.drew | apply IsS82.set_1 | apply IsS82.set_2) | exact HI0.out))))) : p := h
theorem ax91 {p : Prop} (h : p := by rw [hg]; exact Nat.ne_of_gt (IsS82.lt (show IsS82 w0 _ g s0_0 s0_1 s0_2 from (by repeat (first | (with_reducible first | exact HI0.out | apply IsS82.alloc | apply IsS82.drewN | apply IsS82.drew | apply IsS82.set_1 | apply IsS82.set_2) | exact HI0.out))))) : p := h
theorem ax92 {p : Prop} (h : p := by repeat (first | (with_reducible first | exact HI0.out | apply IsS82.alloc | apply IsS82.drewN | apply IsS82.drew | apply IsS82.set_1 | apply IsS82.set_2 | refine IsS82.far ?_ (Aside0.out (by assumption)) _) | exact HI0.out)) : p := h
theorem ax93 {p : Prop} (h : p := by repeat (first | (with_reducible first | exact HB.out | apply below_alloc | apply pw_below_drewN | apply below_drew1 | refine below_set ?_ (IsS82.ge HI0.out) | refine below_set ?_ GE417.out) | exact HB.out)) : p := h
theorem ax94 {p : Prop} (h : p := by repeat (first | (with_reducible first | exact HK.out | apply KeepBut.set_ | apply keep_drewN | apply keep_drew | apply keep_alloc | refine keep_far ?_ GW417.out _) | exact HK.out)) : p := h
theorem ax95 {p : Prop} (h : p := by repeat (first | exact (Kd.V_reads' HO425.out).2.2 | (with_reducible refine Kd.C_alloc ?_ _) | (with_reducible refine Kd.C_drewN ?_ _) | (with_reducible refine Kd.C_drew ?_))) : p := h
theorem ax96 {p : Prop} (h : p := by (with_reducible repeat (first | apply Kd.V_alloc | apply Kd.V_drewN | apply Kd.V_drew)); exact HO425.out) : p := h
theorem ax97 {p : Prop} (h : p := by rw [hg]; exact (keep_size (w := w) (g := g) (row := none) (by repeat (first | (with_reducible first | exact HK.out | apply KeepBut.set_ | apply keep_drewN | apply keep_drew | apply keep_alloc | refine keep_far ?_ GW417.out _) | exact HK.out)))) : p := h
theorem ax98 {p : Prop} (h : p := by rw [hg]; exact Nat.ne_of_lt (IsS82.lt (show IsS82 w0 _ g s0_0 t421 t422 from (by repeat (first | (with_reducible first | exact HI0.out | apply IsS82.alloc | apply IsS82.drewN | apply IsS82.drew | apply IsS82.set_1 | apply IsS82.set_2 | refine IsS82.far ?_ (Aside0.out (by assumption)) _) | exact HI0.out))))) : p := h
theorem ax99 {p : Prop} (h : p := by rw [hg]; exact Nat.ne_of_gt (IsS82.lt (show IsS82 w0 _ g s0_0 t421 t422 from (by repeat (first | (with_reducible first | exact HI0.out | apply IsS82.alloc | apply IsS82.drewN | apply IsS82.drew | apply IsS82.set_1 | apply IsS82.set_2 | refine IsS82.far ?_ (Aside0.out (by assumption)) _) | exact HI0.out))))) : p := h
theorem ax100 {p : Prop} (h : p := by repeat (first | (with_reducible first | exact HB.out | apply below_alloc | apply pw_below_drewN | apply below_drew1 | refine below_set ?_ (IsS82.ge HI0.out) | refine below_set ?_ GE417.out | refine below_set ?_ GE430.out) | exact HB.out)) : p := h
theorem ax101 {p : Prop} (h : p := by repeat (first | (with_reducible first | exact HK.out | apply KeepBut.set_ | apply keep_drewN | apply keep_drew | apply keep_alloc | refine keep_far ?_ GW417.out _ | refine keep_far ?_ GW430.out _) | exact HK.out)) : p := h
theorem ax102 {p : Prop} (h : p := by rw [e_]; rfl) : p := h
theorem ax103 {p : Prop} (h : p := by have h_ : (t434 : Int) < ((t427.length : Int) : Int) := of_decide_eq_true (by first | (with_reducible assumption) | assumption); first | exact h_ | (have e_ := (Kd.R_reads' HO429.out).1; omega) | simpa using h_) : p := h
theorem ax104 {p : Prop} (h : p := by (with_reducible repeat (first | refine blk_drewN ?_ _ | refine blk_drew ?_ | refine blk_alloc ?_ _)); refine blk_far ?_ (by have h_ := Kd.R_ne HO429.out BK417.out (by decide); intro e_; exact h_ (by rw [e_]; rfl)) _; (with_reducible repeat (first | refine blk_drewN ?_ _ | refine blk_drew ?_ | refine blk_alloc ?_ _)); exact BK417.out) : p := h
theorem ax105 {p : Prop} (h : p := by (with_reducible repeat (first | refine blk_drewN ?_ _ | refine blk_drew ?_ | refine blk_alloc ?_ _)); refine blk_far ?_ (by have h_ := Kd.R_ne HO429.out BK430.out (by decide); intro e_; exact h_ (by rw [e_]; rfl)) _; (with_reducible repeat (first | refine blk_drewN ?_ _ | refine blk_drew ?_ | refine blk_alloc ?_ _)); exact BK430.out) : p := h
theorem ax106 {p : Prop} (h : p := by (with_reducible repeat (first | refine blk_drewN ?_ _ | refine blk_drew ?_ | refine blk_alloc ?_ _)); refine blk_put (cs := #[.slice none 0 0]) ?_ 0 _ rfl; (with_reducible repeat (first | refine blk_drewN ?_ _ | refine blk_drew ?_ | refine blk_alloc ?_ _)); exact BK417.out) : p := h
theorem ax107 {p : Prop} (h : p := by repeat (first | (with_reducible first | exact HB.out | apply below_alloc | apply pw_below_drewN | apply below_drew1 | refine below_set ?_ (IsS82.ge HI0.out) | refine below_set ?_ (Aside0.out (by assumption))) | exact HB.out)) : p := h
theorem ax108 {p : Prop} (h : p := by exact (Reps.one (show Kd.M (Kd.int .i64) _ _ _ (-1) [.int .i64 (-1)] from rfl) (Reps.one (show Kd.M (Kd.int .i64) _ _ _ 26 [.int .i64 26] from rfl) (Reps.one (show Kd.M (Kd.int .i64) _ _ _ 0 [.int .i64 0] from rfl) (Reps.one (show Kd.M (Kd.int .i64) _ _ _ 3 [.int .i64 3] from rfl) (Reps.none _ _)))))) : p := h
theorem ax109 {p : Prop} (h : p := by have h_ : (t441 : Int) < ((t427.length : Int) : Int) := of_decide_eq_true (by first | (with_reducible assumption) | assumption); first | exact h_ | (have e_ := (Kd.R_reads' HO429.out).1; omega) | simpa using h_) : p := h
theorem ax110 {p : Prop} (h : p := by exact (Reps.one (show Kd.M (Kd.int .i64) _ _ _ (-1) [.int .i64 (-1)] from rfl) (Reps.one (show Kd.M (Kd.int .i64) _ _ _ 0 [.int .i64 0] from rfl) (Reps.one (show Kd.M (Kd.int .i64) _ _ _ 1 [.int .i64 1] from rfl) (Reps.one (show Kd.M (Kd.int .i64) _ _ _ (t427.length : Int) [.int .i64 (t427.length : Int)] from rfl) (Reps.none _ _)))))) : p := h
theorem ax111 {p : Prop} (h : p := by have h_ : (t451 : Int) < ((t427.length : Int) : Int) := of_decide_eq_true (by first | (with_reducible assumption) | assumption); first | exact h_ | (have e_ := (Kd.R_reads' HO429.out).1; omega) | simpa using h_) : p := h
theorem ax112 {p : Prop} (h : p := by repeat (first | (with_reducible first | exact HB.out | apply below_alloc | apply pw_below_drewN | apply below_drew1 | refine below_set ?_ (IsS82.ge HI468.out) | refine below_set ?_ GE467.out) | exact HB.out)) : p := h
theorem ax113 {p : Prop} (h : p := by rw [hw]; exact (by (with_reducible repeat (first | refine blk_drewN ?_ _ | refine blk_drew ?_ | refine blk_alloc ?_ _)); refine blk_put (cs := #[.int .i64 ((rd_T74 l0_0 x1_1).f0), .int .i64 ((rd_T74 l0_0 x1_1).f1), .bool false]) ?_ 2 _ rfl; (with_reducible repeat (first | refine blk_drewN ?_ _ | refine blk_drew ?_ | refine blk_alloc ?_ _)); refine blk_put (cs := #[.int .i64 ((rd_T74 l0_0 x1_1).f0), .int .i64 0, .bool false]) ?_ 1 _ rfl; (with_reducible repeat (first | refine blk_drewN ?_ _ | refine blk_drew ?_ | refine blk_alloc ?_ _)); refine blk_put (cs := #[.int .i64 0, .int .i64 0, .bool false]) ?_ 0 _ rfl; (with_reducible repeat (first | refine blk_drewN ?_ _ | refine blk_drew ?_ | refine blk_alloc ?_ _)); exact BK485.out)) : p := h
theorem ax114 {p : Prop} (h : p := by rw [hw]; exact (by repeat (first | (with_reducible first | exact HB.out | apply below_alloc | apply pw_below_drewN | apply below_drew1 | refine below_set ?_ GE485.out) | exact HB.out))) : p := h
theorem ax115 {p : Prop} (h : p := by first | rfl | (simp; done) | (simp only [← hjs18] <;> (first | rfl | simp)) | (simp [*]; done)) : p := h
theorem ax116 {p : Prop} (h : p := by (with_reducible repeat (first | apply Kd.V_alloc | apply Kd.V_drewN | apply Kd.V_drew)); exact HO510.out) : p := h
theorem ax117 {p : Prop} (h : p := by repeat (first | (with_reducible first | exact HK.out | apply KeepBut.set_ | apply keep_drewN | apply keep_drew | apply keep_alloc | refine keep_far ?_ GW528.out _) | exact HK.out)) : p := h
theorem ax118 {p : Prop} (h : p := by repeat (first | (with_reducible first | exact HB.out | apply below_alloc | apply pw_below_drewN | apply below_drew1 | refine below_set ?_ (IsS82.ge HI0.out) | refine below_set ?_ GE528.out) | exact HB.out)) : p := h
theorem ax119 {p : Prop} (h : p := by repeat (first | (with_reducible first | exact HB.out | apply below_alloc | apply pw_below_drewN | apply below_drew1 | refine below_set ?_ (IsS82.ge HI0.out) | refine below_set ?_ GE544.out) | exact HB.out)) : p := h
theorem ax120 {p : Prop} (h : p := by repeat (first | (with_reducible first | exact HK.out | apply KeepBut.set_ | apply keep_drewN | apply keep_drew | apply keep_alloc | refine keep_far ?_ GW544.out _) | exact HK.out)) : p := h
theorem ax121 {p : Prop} (h : p := by exact Kd.C_foot_now HR1_0.out (by repeat (first | (with_reducible first | exact HK.out | apply KeepBut.set_ | apply keep_drewN | apply keep_drew | apply keep_alloc | refine keep_far ?_ GW544.out _) | exact HK.out))) : p := h
theorem ax122 {p : Prop} (h : p := by have := HJ2.out; first | omega | exact Nat.le_refl _) : p := h
theorem ax123 {p : Prop} (h : p := by repeat (first | (with_reducible first | exact HI566.out | apply IsS82.alloc | apply IsS82.drewN | apply IsS82.drew | apply IsS82.set_1 | apply IsS82.set_2 | refine IsS82.far ?_ NB566_565.out _) | exact HI566.out)) : p := h
theorem ax124 {p : Prop} (h : p := by repeat (first | (with_reducible first | exact HB.out | apply below_alloc | apply pw_below_drewN | apply below_drew1 | refine below_set ?_ (IsS82.ge HI566.out) | refine below_set ?_ GE565.out) | exact HB.out)) : p := h
theorem ax125 {p : Prop} (h : p := by rw [hg]; exact (below_size (by repeat (first | (with_reducible first | exact HB.out | apply below_alloc | apply pw_below_drewN | apply below_drew1 | refine below_set ?_ (IsS82.ge HI566.out) | refine below_set ?_ GE565.out) | exact HB.out)))) : p := h
theorem ax126 {p : Prop} (h : p := by repeat (first | (with_reducible first | exact HI566.out | apply IsS82.alloc | apply IsS82.drewN | apply IsS82.drew | apply IsS82.set_1 | apply IsS82.set_2 | refine IsS82.far ?_ NB566_565.out _ | refine IsS82.far ?_ NB566_572.out _) | exact HI566.out)) : p := h
theorem ax127 {p : Prop} (h : p := by repeat (first | (with_reducible first | exact HB.out | apply below_alloc | apply pw_below_drewN | apply below_drew1 | refine below_set ?_ (IsS82.ge HI566.out) | refine below_set ?_ (Aside0.out (by assumption))) | exact HB.out)) : p := h
theorem ax128 {p : Prop} (h : p := by repeat (first | (with_reducible first | exact HI577.out | apply IsS82.alloc | apply IsS82.drewN | apply IsS82.drew | apply IsS82.set_1 | apply IsS82.set_2 | refine IsS82.far ?_ NB577_576.out _) | exact HI577.out)) : p := h
theorem ax129 {p : Prop} (h : p := by repeat (first | (with_reducible first | exact HB.out | apply below_alloc | apply pw_below_drewN | apply below_drew1 | refine below_set ?_ (IsS82.ge HI577.out) | refine below_set ?_ GE576.out) | exact HB.out)) : p := h
theorem ax130 {p : Prop} (h : p := by (with_reducible repeat (first | refine blk_drewN ?_ _ | refine blk_drew ?_ | refine blk_alloc ?_ _)); refine blk_put (cs := #[.slice none 0 0]) ?_ 0 _ rfl; (with_reducible repeat (first | refine blk_drewN ?_ _ | refine blk_drew ?_ | refine blk_alloc ?_ _)); exact BK576.out) : p := h
theorem ax131 {p : Prop} (h : p := by repeat (first | (with_reducible first | exact HB.out | apply below_alloc | apply pw_below_drewN | apply below_drew1 | refine below_set ?_ (IsS82.ge HI577.out) | refine below_set ?_ (Aside0.out (by assumption))) | exact HB.out)) : p := h
theorem ax132 {p : Prop} (h : p := by (with_reducible repeat (first | refine blk_drewN ?_ _ | refine blk_drew ?_ | refine blk_alloc ?_ _)); refine blk_put (cs := #[.slice none 0 0]) ?_ 0 _ rfl; (with_reducible repeat (first | refine blk_drewN ?_ _ | refine blk_drew ?_ | refine blk_alloc ?_ _)); exact BK594.out) : p := h
theorem ax133 {p : Prop} (h : p := by (with_reducible repeat (first | refine blk_drewN ?_ _ | refine blk_drew ?_ | refine blk_alloc ?_ _)); refine blk_put (cs := #[.slice none 0 0]) ?_ 0 _ rfl; (with_reducible repeat (first | refine blk_drewN ?_ _ | refine blk_drew ?_ | refine blk_alloc ?_ _)); exact BK607.out) : p := h
theorem ax134 {p : Prop} (h : p := by (with_reducible repeat (first | refine blk_drewN ?_ _ | refine blk_drew ?_ | refine blk_alloc ?_ _)); refine blk_put (cs := #[.slice none 0 0]) ?_ 0 _ rfl; (with_reducible repeat (first | refine blk_drewN ?_ _ | refine blk_drew ?_ | refine blk_alloc ?_ _)); exact BK627.out) : p := h
theorem ax135 {p : Prop} (h : p := by (with_reducible repeat (first | refine blk_drewN ?_ _ | refine blk_drew ?_ | refine blk_alloc ?_ _)); refine blk_put (cs := #[.slice none 0 0]) ?_ 0 _ rfl; (with_reducible repeat (first | refine blk_drewN ?_ _ | refine blk_drew ?_ | refine blk_alloc ?_ _)); exact BK640.out) : p := h
theorem ax136 {p : Prop} (h : p := by repeat (first | (with_reducible exact HR650.out) | (with_reducible refine Kd.C_alloc ?_ _) | (with_reducible refine Kd.C_drewN ?_ _) | (with_reducible refine Kd.C_drew ?_) | exact HR650.out)) : p := h
theorem ax137 {p : Prop} (h : p := by repeat (first | (with_reducible exact HR657.out) | (with_reducible refine Kd.C_alloc ?_ _) | (with_reducible refine Kd.C_drewN ?_ _) | (with_reducible refine Kd.C_drew ?_) | exact HR657.out)) : p := h
theorem ax138 {p : Prop} (h : p := by have := HJ2.out; have := HJ12.out; have := HK3.out; omega) : p := h
theorem ax139 {p : Prop} (h : p := by have := HJ3.out; first | omega | exact Nat.le_refl _) : p := h
theorem ax140 {p : Prop} (h : p := by have := HJ3.out; have := HJ16.out; have := HK3.out; omega) : p := h
theorem ax141 {p : Prop} (h : p := by repeat (first | (with_reducible first | exact HI729.out | apply IsS82.alloc | apply IsS82.drewN | apply IsS82.drew | apply IsS82.set_1 | apply IsS82.set_2) | exact HI729.out)) : p := h
theorem ax142 {p : Prop} (h : p := by repeat (first | (with_reducible first | exact HB.out | apply below_alloc | apply pw_below_drewN | apply below_drew1 | refine below_set ?_ (IsS82.ge HI729.out)) | exact HB.out)) : p := h
theorem ax143 {p : Prop} (h : p := by rw [hg]; exact (below_size (by repeat (first | (with_reducible first | exact HB.out | apply below_alloc | apply pw_below_drewN | apply below_drew1 | refine below_set ?_ (IsS82.ge HI729.out)) | exact HB.out)))) : p := h
theorem ax144 {p : Prop} (h : p := by repeat (first | (with_reducible first | exact HI729.out | apply IsS82.alloc | apply IsS82.drewN | apply IsS82.drew | apply IsS82.set_1 | apply IsS82.set_2 | refine IsS82.far ?_ NB729_735.out _) | exact HI729.out)) : p := h
theorem ax145 {p : Prop} (h : p := by repeat (first | (with_reducible first | exact HB.out | apply below_alloc | apply pw_below_drewN | apply below_drew1 | refine below_set ?_ (IsS82.ge HI729.out) | refine below_set ?_ GE735.out) | exact HB.out)) : p := h
theorem ax146 {p : Prop} (h : p := by repeat (first | (with_reducible first | exact HB.out | apply below_alloc | apply pw_below_drewN | apply below_drew1 | refine below_set ?_ (IsS82.ge HI729.out) | refine below_set ?_ (Aside0.out (by assumption))) | exact HB.out)) : p := h
theorem ax147 {p : Prop} (h : p := by repeat (first | (with_reducible first | exact HB.out | apply below_alloc | apply pw_below_drewN | apply below_drew1 | refine below_set ?_ (Aside0.out (by assumption)) | refine below_set ?_ (IsS82.ge HI729.out)) | exact HB.out)) : p := h
theorem ax148 {p : Prop} (h : p := by have := LMc12.out; omega) : p := h
theorem ax149 {p : Prop} (h : p := by (with_reducible repeat (first | refine blk_drewN ?_ _ | refine blk_drew ?_ | refine blk_alloc ?_ _)); refine blk_put (cs := #[.slice none 0 0]) ?_ 0 _ rfl; (with_reducible repeat (first | refine blk_drewN ?_ _ | refine blk_drew ?_ | refine blk_alloc ?_ _)); exact BK744.out) : p := h
theorem ax150 {p : Prop} (h : p := by have := LMc29.out; omega) : p := h
theorem ax151 {p : Prop} (h : p := by rw [Ny758.out, List.length_take]; omega) : p := h
theorem ax152 {p : Prop} (h : p := by first | rfl | (simp [errW_none, errW_some] <;> rfl) | (simp only [← hji49, ← hjs54]; first | rfl | (simp [errW_none, errW_some] <;> rfl)) | (simp [*, errW_none, errW_some] <;> rfl)) : p := h
theorem ax153 {p : Prop} (h : p := by have := HK1.out; have := HJ44.out; first | omega | exact Nat.le_refl _) : p := h
theorem ax154 {p : Prop} (h : p := by first | rfl | (simp [errW_none, errW_some] <;> rfl) | (simp only [← hji78, ← hjs83, ← hjs87, ← hjs89]; first | rfl | (simp [errW_none, errW_some] <;> rfl)) | (simp [*, errW_none, errW_some] <;> rfl)) : p := h
theorem ax155 {p : Prop} (h : p := by repeat (first | exact (Kd.R_reads' HO_6.out).2.2 | (with_reducible refine Kd.C_alloc ?_ _) | (with_reducible refine Kd.C_drewN ?_ _) | (with_reducible refine Kd.C_drew ?_))) : p := h
theorem ax156 {p : Prop} (h : p := by exact (Kd.R_reads' HO_6.out).2.1) : p := h
theorem ax157 {p : Prop} (h : p := by refine (Kd.R_reads' (e := 74) (base := w.heap.size) (ok := fun k_ => True) (n := t762.length) (c := co111) ?_).2.2; exact (rX HO764)) : p := h
theorem ax158 {p : Prop} (h : p := by exact (Kd.R_reads' HO764.out).2.1) : p := h
theorem ax159 {p : Prop} (h : p := by rw [hg]; exact Nat.ne_of_lt (blk_lt (g := gb744) (o := .cells #[.slice none 0 0] 26 (0, 0)) aU)) : p := h
theorem ax160 {p : Prop} (h : p := by rw [hg]; exact Nat.ne_of_gt (blk_lt (g := gb744) (o := .cells #[.slice none 0 0] 26 (0, 0)) aU)) : p := h
theorem ax161 {p : Prop} (h : p := by refine (Kd.R_reads' (e := 74) (base := w.heap.size) (ok := fun k_ => True) (n := t762.length) (c := co120) ?_).2.2; exact (rX HO764)) : p := h
theorem ax162 {p : Prop} (h : p := by (with_reducible repeat (first | refine blk_drewN ?_ _ | refine blk_drew ?_ | refine blk_alloc ?_ _)); refine blk_put (cs := #[.slice none 0 0]) ?_ 0 _ rfl; (with_reducible repeat (first | refine blk_drewN ?_ _ | refine blk_drew ?_ | refine blk_alloc ?_ _)); exact BK768.out) : p := h
theorem ax163 {p : Prop} (h : p := by repeat (first | exact (Kd.V_reads' HO777.out).2.2 | (with_reducible refine Kd.C_alloc ?_ _) | (with_reducible refine Kd.C_drewN ?_ _) | (with_reducible refine Kd.C_drew ?_))) : p := h
theorem ax164 {p : Prop} (h : p := by (with_reducible repeat (first | apply Kd.V_alloc | apply Kd.V_drewN | apply Kd.V_drew)); exact HO777.out) : p := h
theorem ax165 {p : Prop} (h : p := by repeat (first | exact (Kd.R_reads' HO_839000.out).2.2 | (with_reducible refine Kd.C_alloc ?_ _) | (with_reducible refine Kd.C_drewN ?_ _) | (with_reducible refine Kd.C_drew ?_))) : p := h
theorem ax166 {p : Prop} (h : p := by exact (Kd.R_reads' HO_839000.out).2.1) : p := h
theorem ax167 {p : Prop} (h : p := by have := HJ6.out; have := HJ28.out; have := HJ48.out; have := HJ82.out; first | omega | exact Nat.le_refl _) : p := h
theorem ax168 {p : Prop} (h : p := by have := HJ6.out; have := HJ28.out; have := HJ48.out; have := HJ82.out; have := HJ125.out; first | omega | exact Nat.le_refl _) : p := h
theorem ax169 {p : Prop} (h : p := by have := HJ6.out; have := HJ28.out; have := HJ48.out; have := HJ82.out; have := HJ125.out; have := HJ172.out; have := HJ189.out; have := HJ204.out; first | omega | exact Nat.le_refl _) : p := h
theorem ax170 {p : Prop} (h : p := by have := HJ6.out; have := HJ28.out; have := HJ48.out; have := HJ82.out; have := HJ125.out; have := HJ172.out; have := HJ189.out; have := HJ204.out; have := HJ246.out; first | omega | exact Nat.le_refl _) : p := h
theorem ax171 {p : Prop} (h : p := by have := HJ6.out; have := HJ28.out; have := HJ48.out; have := HJ82.out; have := HJ125.out; have := HJ172.out; have := HJ189.out; have := HJ204.out; have := HJ242.out; first | omega | exact Nat.le_refl _) : p := h
end Go.Proofs.YtcplbbflfgckbaaGreatDoor.X

