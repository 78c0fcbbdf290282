-- By gen.py (the session's own program over the kit's printer): functions of the program, each with its contract. Lean checks it.
import Derived.Test.YtknonolfgpknjaaX0
import Derived.Test.YtknonolfgpknjaaX2
import Derived.Test.YtknonolfgpknjaaX4
import Derived.Test.YtknonolfgpknjaaX5
import Derived.Test.YtknonolfgpknjaaX6
namespace Go.Proofs.Ytknonolfgpknjaa.X
open Go.RowKit Go.Proofs.YtknonolfgpknjaaW.PrintWords Go.Proofs.YtknonolfgpknjaaW.PrintLast Go.Proofs.YtknonolfgpknjaaW.PrintMore
attribute [local go_sem] max2_int min2_int max_two min_two max_three min_three max_four min_four   -- for this text's walks alone
set_option linter.unusedVariables false
set_option linter.unusedSimpArgs false

/-! ### laws_FnExactPlainCode: function 3 -/
mutual
def laws_FnExactPlainCode.j0 : Nat → List Int → List ByteArray → Bool → List Int → List ByteArray → Bool → Bool → Option (Bool)
 | 0, _, _, _, _, _, _, _ => none
 | k + 1, x0, x3, x4, x5, x6, x7, x37 => if x37 = true then (some false) else ((laws_toIntS.f k x0).bind fun t179 => ((laws_eqIntS.f k x5 t179).bind fun t182 => (if t182 = true then ((laws_markIntS.f k x5 1).bind fun bt183 => (if bt183.1 < 0 then (laws_FnExactPlainCode.j1 k x0 x3 x4 x6 true) else ((laws_eqStringS.f k x6 x3).bind fun t185 => (if t185 = true then (laws_FnExactPlainCode.j1 k x0 x3 x4 x6 (x7 != x4)) else (laws_FnExactPlainCode.j1 k x0 x3 x4 x6 true))))) else (some false))))
def laws_FnExactPlainCode.j1 : Nat → List Int → List ByteArray → Bool → List ByteArray → Bool → Option (Bool)
 | 0, _, _, _, _, _ => none
 | k + 1, x0, x3, x4, x6, x58 => if x58 = true then (some false) else ((laws_markStringS.f k x6 1).bind fun bt186 => ((laws_heldStringS.f k bt186.2 1).bind fun t188 => (if t188 < 0 then (some false) else (if t188 = bt186.1 then ((laws_toIntS.f k x0).bind fun t189 => ((impl_PlainCode.f k t189).bind fun bt192 => ((laws_eqStringS.f k bt192.1 x3).bind fun t196 => (if t196 = true then (laws_FnExactPlainCode.j2 k bt186.2 bt186.1 (bt192.2 != x4)) else (laws_FnExactPlainCode.j2 k bt186.2 bt186.1 true))))) else (some false)))))
def laws_FnExactPlainCode.j2 : Nat → List ByteArray → Int → Bool → Option (Bool)
 | 0, _, _, _ => none
 | k + 1, x6, x9, x84 => if x84 = true then (some false) else ((laws_heldStringS.f k x6 1).bind fun t197 => (if t197 < 0 then (some false) else (if t197 = x9 then (some true) else (some false))))
end
def laws_FnExactPlainCode.f (k : Nat) (l0 : List Int) : Option (Bool) := if (l0.length : Int) > 1048576 then (some true) else ((laws_toIntS.f k l0).bind fun t164 => ((spec_PlainCode.f k t164).bind fun bt167 => ((laws_toIntS.f k l0).bind fun t171 => ((impl_PlainCode.f k t171).bind fun bt174 => ((laws_eqStringS.f k bt174.1 bt167.1).bind fun t178 => (if t178 = true then (laws_FnExactPlainCode.j0 k l0 bt167.1 bt167.2 t171 bt174.1 bt174.2 (bt174.2 != bt167.2)) else (laws_FnExactPlainCode.j0 k l0 bt167.1 bt167.2 t171 bt174.1 bt174.2 true)))))))
theorem laws_FnExactPlainCode.mono_l : ∀ k, (∀ y0 y1 y2 y3 y4 y5 y6, LeO (laws_FnExactPlainCode.j0 k y0 y1 y2 y3 y4 y5 y6) (laws_FnExactPlainCode.j0 (k + 1) y0 y1 y2 y3 y4 y5 y6)) ∧ (∀ y0 y1 y2 y3 y4, LeO (laws_FnExactPlainCode.j1 k y0 y1 y2 y3 y4) (laws_FnExactPlainCode.j1 (k + 1) y0 y1 y2 y3 y4)) ∧ (∀ y0 y1 y2, LeO (laws_FnExactPlainCode.j2 k y0 y1 y2) (laws_FnExactPlainCode.j2 (k + 1) y0 y1 y2))
 | 0 => ⟨fun _ _ _ _ _ _ _ r h => by simp [laws_FnExactPlainCode.j0] at h, fun _ _ _ _ _ r h => by simp [laws_FnExactPlainCode.j1] at h, fun _ _ _ r h => by simp [laws_FnExactPlainCode.j2] at h⟩
 | k + 1 => by
  obtain ⟨ih0, ih1, ih2⟩ := laws_FnExactPlainCode.mono_l k
  refine ⟨?_, ?_, ?_⟩ <;> intros
  all_goals (first | unfold laws_FnExactPlainCode.j0 | unfold laws_FnExactPlainCode.j1 | unfold laws_FnExactPlainCode.j2)
  all_goals (repeat' first | (with_reducible first | exact ih0 .. | exact ih1 .. | exact ih2 .. | exact impl_PlainCode.mono .. | exact laws_eqIntS.mono .. | exact laws_eqStringS.mono .. | exact laws_heldStringS.mono .. | exact laws_markIntS.mono .. | exact laws_markStringS.mono .. | exact laws_toIntS.mono .. | exact spec_PlainCode.mono .. | exact LeO.refl _ | exact LeO.none _ | refine LeO.ite ?_ ?_ | refine LeO.bind ?_ (fun _ => ?_)) | exact ih0 .. | exact ih1 .. | exact ih2 .. | exact impl_PlainCode.mono .. | exact laws_eqIntS.mono .. | exact laws_eqStringS.mono .. | exact laws_heldStringS.mono .. | exact laws_markIntS.mono .. | exact laws_markStringS.mono .. | exact laws_toIntS.mono .. | exact spec_PlainCode.mono .. | exact LeO.none _ | refine LeO.ite ?_ ?_ | refine LeO.bind ?_ (fun _ => ?_))
theorem laws_FnExactPlainCode.mono : ∀ a0 k, LeO (laws_FnExactPlainCode.f k a0) (laws_FnExactPlainCode.f (k + 1) a0) := by
 intro a0 k
 obtain ⟨ih0, ih1, ih2⟩ := laws_FnExactPlainCode.mono_l k
 unfold laws_FnExactPlainCode.f
 repeat' first | (with_reducible first | exact ih0 .. | exact ih1 .. | exact ih2 .. | exact impl_PlainCode.mono .. | exact laws_eqIntS.mono .. | exact laws_eqStringS.mono .. | exact laws_heldStringS.mono .. | exact laws_markIntS.mono .. | exact laws_markStringS.mono .. | exact laws_toIntS.mono .. | exact spec_PlainCode.mono .. | exact LeO.refl _ | exact LeO.none _ | refine LeO.ite ?_ ?_ | refine LeO.bind ?_ (fun _ => ?_)) | exact ih0 .. | exact ih1 .. | exact ih2 .. | exact impl_PlainCode.mono .. | exact laws_eqIntS.mono .. | exact laws_eqStringS.mono .. | exact laws_heldStringS.mono .. | exact laws_markIntS.mono .. | exact laws_markStringS.mono .. | exact laws_toIntS.mono .. | exact spec_PlainCode.mono .. | exact LeO.none _ | refine LeO.ite ?_ ?_ | refine LeO.bind ?_ (fun _ => ?_)
set_option maxHeartbeats 8000000 in
set_option maxRecDepth 100000 in
theorem laws_FnExactPlainCode.calls (k : Nat) (A0 : Option Addr) (c0 : Nat) (l0 : List Int) (r : Bool) (w : World) (hr0 : Kd.C (Kd.int .i64) w A0 l0.length l0) (hc0 : l0.length ≤ c0) (h : laws_FnExactPlainCode.f k l0 = some r) (hr_ : r = true) :
  Calls Try.prog 3 #[.slice A0 l0.length c0] w fun e w' => e = .returned (.bool r) ∧ Below w.heap.size w w' := by
 have HR0 := Aside0.mk hr0; have HC0 := Aside0.mk hc0; clear hr0 hc0; have HB := Aside0.mk (Below.refl w.heap.size w); have HRT := Aside0.mk hr_; clear hr_
 have H : (if (l0.length : Int) > 1048576 then (some true) else ((laws_toIntS.f k l0).bind fun t164 => ((spec_PlainCode.f k t164).bind fun bt167 => ((laws_toIntS.f k l0).bind fun t171 => ((impl_PlainCode.f k t171).bind fun bt174 => ((laws_eqStringS.f k bt174.1 bt167.1).bind fun t178 => (if t178 = true then (laws_FnExactPlainCode.j0 k l0 bt167.1 bt167.2 t171 bt174.1 bt174.2 (bt174.2 != bt167.2)) else (laws_FnExactPlainCode.j0 k l0 bt167.1 bt167.2 t171 bt174.1 bt174.2 true)))))))) = some r := h
 clear h
 by_cases c2 : (l0.length : Int) > 1048576
 ·rw [if_pos c2] at H
  have c2b0 : decide (1048576 < (l0.length : Int)) = true := decide_eq_true c2
  have c2b1 : decide (1048576 < l0.length) = true := decide_eq_true (by omega)
  clear c2
  as_aux_lemma =>
   obtain rfl := Option.some.inj H
   go_enter Try.func3, Try.ntmps3
   go_wp2
   go_ret
   exact ⟨ax15, by repeat (first | (with_reducible first | exact HB.out | apply below_alloc | apply pw_below_drewN | apply below_drew1) | exact HB.out)⟩
 ·rw [if_neg c2] at H
  have c2b0 : decide (1048576 < (l0.length : Int)) = false := decide_eq_false c2
  have c2b1 : decide (1048576 < l0.length) = false := decide_eq_false (by omega)
  clear c2
  obtain ⟨t164, A3, H⟩ := bs H
  obtain ⟨⟨t167, t168⟩, A4, H⟩ := bs H
  obtain ⟨t171, A5, H⟩ := bs H
  obtain ⟨⟨t174, t175⟩, A6, H⟩ := bs H
  have HC7 := Aside0.mk H; clear H
  go_enter Try.func3, Try.ntmps3
  go_upto_region 6 with (first | (refine gd 18 7 ?_; refine gc 18 Try.func7 #[.slice A0 l0.length c0] (laws_toIntS.calls k _ _ l0 t164 _ ax9 (HC0.out) A3.out) ?_; rintro e w8 ⟨v165, rfl, ho0, hb⟩; refine ⟨_, rfl, ?_⟩; have HO166 := uL ho0 HB; replace HB := uB HB hb; (try clear hb); (try clear hb2); (try clear hk); (try clear hi); (try clear ho0); obtain ⟨Ao9, co9, eo9⟩ := Kd.R_slice HO166.out; subst eo9) | (refine gd 19 6 ?_; refine gc 19 Try.func6 #[.slice Ao9 t164.length co9] (spec_PlainCode.calls k _ _ t164 t167 t168 _ (by repeat (first | exact (Kd.R_reads' HO166.out).2.2 | (with_reducible refine Kd.C_alloc ?_ _) | (with_reducible refine Kd.C_drewN ?_ _) | (with_reducible refine Kd.C_drew ?_))) ((Kd.R_reads' HO166.out).2.1) A4.out) ?_; rintro e w10 ⟨v169, rfl, ho0, hb⟩; refine ⟨_, rfl, ?_⟩; replace HO166 := uR HO166 hb; have HO170 := uL ho0 HB; replace HB := uB HB hb; (try clear hb); (try clear hb2); (try clear hk); (try clear hi); (try clear ho0)) | (refine gd 23 7 ?_; refine gc 23 Try.func7 #[.slice A0 l0.length c0] (laws_toIntS.calls k _ _ l0 t171 _ ax16 (HC0.out) A5.out) ?_; rintro e w11 ⟨v172, rfl, ho0, hb⟩; refine ⟨_, rfl, ?_⟩; replace HO170 := uR HO170 hb; have HO173 := Aside0.mk (Kd.R_lower (Kd.R_new' ho0 (Kd.R_lt ax32)) (below_size ax10)); replace HO166 := Aside0.mk (Kd.R_elder' ax32 (Kd.R_base ho0) hb); replace HB := uB HB hb; (try clear hb); (try clear hb2); (try clear hk); (try clear hi); (try clear ho0); obtain ⟨Ao12, co12, eo12⟩ := Kd.R_slice HO173.out; subst eo12) | (refine gd 26 8 ?_; refine gc 26 Try.func8 #[.slice Ao12 t171.length co12] (impl_PlainCode.calls k _ _ t171 t174 t175 _ (by repeat (first | exact (Kd.R_reads' HO173.out).2.2 | (with_reducible refine Kd.C_alloc ?_ _) | (with_reducible refine Kd.C_drewN ?_ _) | (with_reducible refine Kd.C_drew ?_))) ((Kd.R_reads' HO173.out).2.1) A6.out) ?_; rintro e w13 ⟨v176, rfl, ho0, hb⟩; refine ⟨_, rfl, ?_⟩; replace HO166 := uR HO166 hb; replace HO173 := uR HO173 hb; have HO177 := Aside0.mk (Kd.R_lower (Kd.R_new' ho0 (Kd.R_lt ax33)) (below_size ax10)); replace HO170 := Aside0.mk (Kd.R_elder' ax33 (Kd.R_base ho0) hb); replace HB := uB HB hb; (try clear hb); (try clear hb2); (try clear hk); (try clear hi); (try clear ho0)))
  (try simp only [Act.put, List.setIfInBounds_toArray, List.set_cons_zero, List.set_cons_succ])
  go_cut [37] (fun v37 wc => ∃ (kq : Nat) (x37_6 : Bool), v37 = .bool x37_6 ∧ Aside0 (laws_FnExactPlainCode.j0 kq l0 t167 t168 t171 t174 t175 x37_6 = some r) ∧ Aside0 (kq ≤ k) ∧ Aside0 (Kd.R Kd.string 9 wc w.heap.size (fun k_ => some k_ ≠ (v176 : Value).ownBlock) v169 t167) ∧ Aside0 (Kd.R (Kd.int .i64) 3 wc w.heap.size (fun _ => True) (.slice Ao12 t171.length co12) t171) ∧ Aside0 (Kd.R Kd.string 9 wc w.heap.size (fun k_ => some k_ ≠ (v169 : Value).ownBlock) v176 t174) ∧ Aside0 (Below w.heap.size w wc))
  case first =>
   have H := HC7.out; clear HC7
   obtain ⟨t178, A14, H⟩ := bs H
   by_cases c15 : t178 = true
   ·subst c15
    rw [if_pos rfl] at H
    as_aux_lemma =>
     have H' := Aside0.mk H
     clear H
     obtain ⟨Ao16, co16, eo16⟩ := Kd.R_slice HO177.out
     subst eo16
     obtain ⟨Ao17, co17, eo17⟩ := Kd.R_slice HO170.out
     subst eo17
     go_wp2_with (first | (refine gd 31 9 ?_; refine gc 31 Try.func9 #[.slice Ao16 t174.length co16, .slice Ao17 t167.length co17] (laws_eqStringS.calls k _ _ t174 _ _ t167 true _ ax34 ((Kd.R_reads' HO177.out).2.1) ax35 ((Kd.R_reads' HO170.out).2.1) A14.out) ?_; rintro e w' ⟨rfl, ⟨nd, rfl⟩⟩; refine ⟨_, rfl, ?_⟩))
     go_meet
     case rel => exact ⟨_, ((t175 != t168)), ax6, H', ⟨by first | omega | exact Nat.le_refl _⟩, ⟨ax36⟩, ⟨ax37⟩, ⟨ax38⟩, ⟨ax10⟩⟩
   ·replace c15 := Bool.eq_false_iff.mpr c15
    subst c15
    rw [if_neg (show ¬ (false = true) by decide)] at H
    as_aux_lemma =>
     have H' := Aside0.mk H
     clear H
     obtain ⟨Ao18, co18, eo18⟩ := Kd.R_slice HO177.out
     subst eo18
     obtain ⟨Ao19, co19, eo19⟩ := Kd.R_slice HO170.out
     subst eo19
     go_wp2_with (first | (refine gd 31 9 ?_; refine gc 31 Try.func9 #[.slice Ao18 t174.length co18, .slice Ao19 t167.length co19] (laws_eqStringS.calls k _ _ t174 _ _ t167 false _ ax34 ((Kd.R_reads' HO177.out).2.1) ax35 ((Kd.R_reads' HO170.out).2.1) A14.out) ?_; rintro e w' ⟨rfl, ⟨nd, rfl⟩⟩; refine ⟨_, rfl, ?_⟩))
     go_meet
     case rel => exact ⟨_, (true), ax6, H', ⟨by first | omega | exact Nat.le_refl _⟩, ⟨ax36⟩, ⟨ax37⟩, ⟨ax38⟩, ⟨ax10⟩⟩
  case rest =>
   clear HC7
   try clear c1
   try clear c2
   try clear c2b0
   try clear c2b1
   try clear p2
   try clear c3
   try clear c6
   try clear c7
   try clear c8
   try clear c9
   try clear c15
   obtain ⟨kq, x37_6, rfl, HA, HJ6, HO_3, HO_5, HO_6, HB⟩ := hcut
   cases kq with
   | zero => exact absurd HA.out (by simp [laws_FnExactPlainCode.j0])
   | succ kj6 =>
    have H := HA.out; clear HA
    simp only [laws_FnExactPlainCode.j0] at H
    by_cases c20 : x37_6 = true
    ·subst c20
     rw [if_pos rfl] at H
     as_aux_lemma =>
      exact absurd ((Option.some.inj H).trans HRT.out) (by decide)
    ·replace c20 := Bool.eq_false_iff.mpr c20
     subst c20
     rw [if_neg (show ¬ (false = true) by decide)] at H
     obtain ⟨t179, A21, H⟩ := bs H
     obtain ⟨t182, A22, H⟩ := bs H
     by_cases c23 : t182 = true
     ·subst c23
      rw [if_pos rfl] at H
      obtain ⟨⟨t183, t184⟩, A24, H⟩ := bs H
      have HC25 := Aside0.mk H; clear H
      go_upto_region 12 with (first | (refine gd 40 7 ?_; refine gc 40 Try.func7 #[.slice A0 l0.length c0] (laws_toIntS.calls kj6 _ _ l0 t179 _ ax16 (HC0.out) A21.out) ?_; rintro e w26 ⟨v180, rfl, ho0, hb⟩; refine ⟨_, rfl, ?_⟩; replace HO_3 := uR HO_3 hb; replace HO_6 := uR HO_6 hb; have HO181 := Aside0.mk (Kd.R_lower (Kd.R_new' ho0 (Kd.R_lt ax39)) (below_size ax10)); replace HO_5 := Aside0.mk (Kd.R_elder' ax39 (Kd.R_base ho0) hb); replace HB := uB HB hb; (try clear hb); (try clear hb2); (try clear hk); (try clear hi); (try clear ho0); obtain ⟨Ao27, co27, eo27⟩ := Kd.R_slice HO181.out; subst eo27) | (refine gd 41 10 ?_; refine gc 41 Try.func10 #[.slice Ao12 t171.length co12, .slice Ao27 t179.length co27] (laws_eqIntS.calls kj6 _ _ t171 _ _ t179 true _ (by repeat (first | exact (Kd.R_reads' HO_5.out).2.2 | (with_reducible refine Kd.C_alloc ?_ _) | (with_reducible refine Kd.C_drewN ?_ _) | (with_reducible refine Kd.C_drew ?_))) ((Kd.R_reads' HO_5.out).2.1) (by repeat (first | exact (Kd.R_reads' HO181.out).2.2 | (with_reducible refine Kd.C_alloc ?_ _) | (with_reducible refine Kd.C_drewN ?_ _) | (with_reducible refine Kd.C_drew ?_))) ((Kd.R_reads' HO181.out).2.1) A22.out) ?_; rintro e w' ⟨rfl, ⟨nd, rfl⟩⟩; refine ⟨_, rfl, ?_⟩) | (refine gd 45 11 ?_; refine gc 45 Try.func11 #[.slice Ao12 t171.length co12, .int .i64 1] (laws_markIntS.calls kj6 (fun k_ => some k_ = (.slice Ao12 t171.length co12 : Value).ownBlock) (.slice Ao12 t171.length co12) t171 1 t183 t184 w _ ax10 (Kd.R_tight rfl HO_5.out) A24.out) ?_; rintro e w28 ⟨rfl, hy0, hb, hkp⟩; refine ⟨_, rfl, ?_⟩; replace HO_3 := Aside0.mk (Kd.R_mono (ok' := fun k_ => some k_ ≠ (v176 : Value).ownBlock) (Kd.R_keptB ((Kd.R_apart' HO_3.out (Kd.R_typed HO_5.out) (by decide))) hkp (fun k_ hk_ hs_ => (hk_.2) hs_)) (fun k_ hk_ => hk_.1.1)); replace HO_6 := Aside0.mk (Kd.R_mono (ok' := fun k_ => some k_ ≠ (v169 : Value).ownBlock) (Kd.R_keptB ((Kd.R_apart' HO_6.out (Kd.R_typed HO_5.out) (by decide))) hkp (fun k_ hk_ hs_ => (hk_.2) hs_)) (fun k_ hk_ => hk_.1.1)); replace HO_5 := Aside0.mk (Kd.R_reok rfl hy0 (fun k_ e_ => HO_5.out.1 k_ e_)); replace HO181 := Aside0.mk (Kd.R_mono (ok' := fun k_ => some k_ ≠ (.slice Ao12 t171.length co12 : Value).ownBlock) (Kd.R_keptB (HO181.out) hkp (fun k_ hk_ hs_ => (hk_.2) hs_)) (fun k_ hk_ => hk_.1.2)); replace HB := Aside0.mk (hb); (try clear hb); (try clear hkp); (try clear hy0)))
      (try simp only [Act.put, List.setIfInBounds_toArray, List.set_cons_zero, List.set_cons_succ])
      go_cut [58] (fun v58 wc => ∃ (kq : Nat) (x58_24 : Bool), v58 = .bool x58_24 ∧ Aside0 (laws_FnExactPlainCode.j1 kq l0 t167 t168 t174 x58_24 = some r) ∧ Aside0 (kq ≤ kj6) ∧ Aside0 (Kd.R Kd.string 9 wc w.heap.size (fun k_ => some k_ ≠ (v176 : Value).ownBlock) v169 t167) ∧ Aside0 (Kd.R Kd.string 9 wc w.heap.size (fun k_ => some k_ ≠ (v169 : Value).ownBlock) v176 t174) ∧ Aside0 (Below w.heap.size w wc))
      case first =>
       have H := HC25.out; clear HC25
       by_cases c29 : t183 < 0
       ·rw [if_pos c29] at H
        have c29b0 : decide (t183 < 0) = true := decide_eq_true c29
        clear c29
        (first | rw [c29b0] | (simp only [i64_w, i32_w]; rw [c29b0]) | skip)
        as_aux_lemma =>
         have H' := Aside0.mk H
         clear H
         go_wp2
         go_meet
         case rel => exact ⟨_, (true), ax6, H', ⟨ax40⟩, ⟨ax11⟩, ⟨ax22⟩, ⟨ax10⟩⟩
       ·rw [if_neg c29] at H
        have c29b0 : decide (t183 < 0) = false := decide_eq_false c29
        clear c29
        (first | rw [c29b0] | (simp only [i64_w, i32_w]; rw [c29b0]) | skip)
        obtain ⟨t185, A30, H⟩ := bs H
        by_cases c31 : t185 = true
        ·subst c31
         rw [if_pos rfl] at H
         as_aux_lemma =>
          have H' := Aside0.mk H
          clear H
          obtain ⟨Ao32, co32, eo32⟩ := Kd.R_slice HO_6.out
          subst eo32
          obtain ⟨Ao33, co33, eo33⟩ := Kd.R_slice HO_3.out
          subst eo33
          go_wp2_with (first | (go_at_call 9; (with_reducible refine (laws_eqStringS.calls kj6 _ _ t174 _ _ t167 true _ ?side1 ?side2 ?side3 ?side4 A30.out).mono ?_); (case side1 => exact ax41); (case side2 => exact (Kd.R_reads' HO_6.out).2.1); (case side3 => exact ax42); (case side4 => exact (Kd.R_reads' HO_3.out).2.1); rintro e w' ⟨rfl, ⟨nd, rfl⟩⟩))
          go_meet
          case rel => exact ⟨_, ((t175 != t168)), ax6, H', ⟨ax40⟩, ⟨ax11⟩, ⟨ax22⟩, ⟨ax10⟩⟩
        ·replace c31 := Bool.eq_false_iff.mpr c31
         subst c31
         rw [if_neg (show ¬ (false = true) by decide)] at H
         as_aux_lemma =>
          have H' := Aside0.mk H
          clear H
          obtain ⟨Ao34, co34, eo34⟩ := Kd.R_slice HO_6.out
          subst eo34
          obtain ⟨Ao35, co35, eo35⟩ := Kd.R_slice HO_3.out
          subst eo35
          go_wp2_with (first | (go_at_call 9; (with_reducible refine (laws_eqStringS.calls kj6 _ _ t174 _ _ t167 false _ ?side1 ?side2 ?side3 ?side4 A30.out).mono ?_); (case side1 => exact ax41); (case side2 => exact (Kd.R_reads' HO_6.out).2.1); (case side3 => exact ax42); (case side4 => exact (Kd.R_reads' HO_3.out).2.1); rintro e w' ⟨rfl, ⟨nd, rfl⟩⟩))
          go_meet
          case rel => exact ⟨_, (true), ax6, H', ⟨ax40⟩, ⟨ax11⟩, ⟨ax22⟩, ⟨ax10⟩⟩
      case rest =>
       clear HC25
       try clear c1
       try clear c2
       try clear c2b0
       try clear c2b1
       try clear p2
       try clear c3
       try clear c6
       try clear c7
       try clear c8
       try clear c9
       try clear c10
       try clear c11
       try clear c15
       try clear c20
       try clear c23
       try clear c29
       try clear c29b0
       try clear c31
       try clear p2
       obtain ⟨kq, x58_24, rfl, HA, HJ24, HO_3, HO_6, HB⟩ := hcut
       cases kq with
       | zero => exact absurd HA.out (by simp [laws_FnExactPlainCode.j1])
       | succ kj24 =>
        have H := HA.out; clear HA
        simp only [laws_FnExactPlainCode.j1] at H
        by_cases c36 : x58_24 = true
        ·subst c36
         rw [if_pos rfl] at H
         as_aux_lemma =>
          exact absurd ((Option.some.inj H).trans HRT.out) (by decide)
        ·replace c36 := Bool.eq_false_iff.mpr c36
         subst c36
         rw [if_neg (show ¬ (false = true) by decide)] at H
         obtain ⟨⟨t186, t187⟩, A37, H⟩ := bs H
         obtain ⟨t188, A38, H⟩ := bs H
         by_cases c39 : t188 < 0
         ·rw [if_pos c39] at H
          have c39b0 : decide (t188 < 0) = true := decide_eq_true c39
          clear c39
          as_aux_lemma =>
           exact absurd ((Option.some.inj H).trans HRT.out) (by decide)
         ·rw [if_neg c39] at H
          have c39b0 : decide (t188 < 0) = false := decide_eq_false c39
          clear c39
          by_cases c40 : t188 = t186
          ·rw [if_pos c40] at H
           have c40b0 : (t188 == t186) = true := beq_iff_eq.mpr c40
           have c40b1 : (t188 != t186) = false := bne_eq_false_iff_eq.mpr c40
           clear c40
           obtain ⟨t189, A41, H⟩ := bs H
           obtain ⟨⟨t192, t193⟩, A42, H⟩ := bs H
           have HC43 := Aside0.mk H; clear H
           obtain ⟨Ao44, co44, eo44⟩ := Kd.R_slice HO_6.out
           subst eo44
           go_upto_region 23 with (first | (refine gd 61 12 ?_; refine gc 61 Try.func12 #[.slice Ao44 t174.length co44, .int .i64 1] (laws_markStringS.calls kj24 (fun k_ => some k_ = (.slice Ao44 t174.length co44 : Value).ownBlock) (.slice Ao44 t174.length co44) t174 1 t186 t187 w _ ax10 (Kd.R_tight rfl HO_6.out) A37.out) ?_; rintro e w45 ⟨rfl, hy0, hb, hkp⟩; refine ⟨_, rfl, ?_⟩; replace HO_3 := Aside0.mk (Kd.R_mono (ok' := fun k_ => some k_ ≠ (.slice Ao44 t174.length co44 : Value).ownBlock) (Kd.R_keptB (HO_3.out) hkp (fun k_ hk_ hs_ => (hk_) hs_)) (fun k_ hk_ => hk_.1)); replace HO_6 := Aside0.mk (Kd.R_reok rfl hy0 (fun k_ e_ => HO_6.out.1 k_ e_)); replace HB := Aside0.mk (hb); (try clear hb); (try clear hkp); (try clear hy0)) | ((with_reducible refine gate_callee (f := 13) rfl ?_); refine goesL_ (some 64) rfl rfl Try.func13 (by kernel_rfl) rfl #[.slice Ao44 t187.length co44, .int .i64 1] rfl (by (try simp only [List.map_toArray, List.map_cons, List.map_nil]); first | done | (rw [show t187.length = t174.length from (Kd.R_reads' HO_6.out).1.symm] <;> rfl) | rfl | (simp only [List.length_drop, List.length_take]; rfl)) ?_; (with_reducible refine (laws_heldStringS.calls kj24 _ _ t187 1 t188 _ ?side1 ?side2 A38.out).mono ?_); (case side1 => exact ax41); (case side2 => rw [show t187.length = t174.length from (Kd.R_reads' HO_6.out).1.symm]; exact (Kd.R_reads' HO_6.out).2.1); rintro e w46 ⟨rfl, hb⟩; refine ⟨_, rfl, ?_⟩; replace HO_3 := uR HO_3 hb; replace HO_6 := uR HO_6 hb; replace HB := uB HB hb; (try clear hb); (try clear hb2); (try clear hk); (try clear hi)) | (refine gd 72 7 ?_; refine gc 72 Try.func7 #[.slice A0 l0.length c0] (laws_toIntS.calls kj24 _ _ l0 t189 _ ax16 (HC0.out) A41.out) ?_; rintro e w47 ⟨v190, rfl, ho0, hb⟩; refine ⟨_, rfl, ?_⟩; replace HO_3 := uR HO_3 hb; replace HO_6 := uR HO_6 hb; have HO191 := uL ho0 HB; replace HB := uB HB hb; (try clear hb); (try clear hb2); (try clear hk); (try clear hi); (try clear ho0); obtain ⟨Ao48, co48, eo48⟩ := Kd.R_slice HO191.out; subst eo48) | (refine gd 73 8 ?_; refine gc 73 Try.func8 #[.slice Ao48 t189.length co48] (impl_PlainCode.calls kj24 _ _ t189 t192 t193 _ (by repeat (first | exact (Kd.R_reads' HO191.out).2.2 | (with_reducible refine Kd.C_alloc ?_ _) | (with_reducible refine Kd.C_drewN ?_ _) | (with_reducible refine Kd.C_drew ?_))) ((Kd.R_reads' HO191.out).2.1) A42.out) ?_; rintro e w49 ⟨v194, rfl, ho0, hb⟩; refine ⟨_, rfl, ?_⟩; replace HO191 := uR HO191 hb; have HO195 := Aside0.mk (Kd.R_lower (Kd.R_new' (Kd.R_new' ho0 (Kd.R_lt ax11)) (Kd.R_lt ax22)) (below_size ax10)); replace HO_3 := Aside0.mk (Kd.R_elder' ax11 (Kd.R_base ho0) hb); replace HO_6 := Aside0.mk (Kd.R_elder' ax22 (Kd.R_base ho0) hb); replace HB := uB HB hb; (try clear hb); (try clear hb2); (try clear hk); (try clear hi); (try clear ho0)))
           (try simp only [Act.put, List.setIfInBounds_toArray, List.set_cons_zero, List.set_cons_succ])
           go_cut [84] (fun v84 wc => ∃ (kq : Nat) (x84_42 : Bool), v84 = .bool x84_42 ∧ Aside0 (laws_FnExactPlainCode.j2 kq t187 t186 x84_42 = some r) ∧ Aside0 (kq ≤ kj24) ∧ Aside0 (Kd.R Kd.string 9 wc w.heap.size (fun _ => True) (.slice Ao44 t174.length co44) t187) ∧ Aside0 (Below w.heap.size w wc))
           case first =>
            have H := HC43.out; clear HC43
            obtain ⟨t196, A50, H⟩ := bs H
            by_cases c51 : t196 = true
            ·subst c51
             rw [if_pos rfl] at H
             as_aux_lemma =>
              have H' := Aside0.mk H
              clear H
              obtain ⟨Ao52, co52, eo52⟩ := Kd.R_slice HO195.out
              subst eo52
              obtain ⟨Ao53, co53, eo53⟩ := Kd.R_slice HO_3.out
              subst eo53
              go_wp2_with (first | (refine gd 78 9 ?_; refine gc 78 Try.func9 #[.slice Ao52 t192.length co52, .slice Ao53 t167.length co53] (laws_eqStringS.calls kj24 _ _ t192 _ _ t167 true _ ax43 ((Kd.R_reads' HO195.out).2.1) ax42 ((Kd.R_reads' HO_3.out).2.1) A50.out) ?_; rintro e w' ⟨rfl, ⟨nd, rfl⟩⟩; refine ⟨_, rfl, ?_⟩))
              go_meet
              case rel => exact ⟨_, ((t193 != t168)), ax6, H', ⟨ax44⟩, ⟨ax45⟩, ⟨ax10⟩⟩
            ·replace c51 := Bool.eq_false_iff.mpr c51
             subst c51
             rw [if_neg (show ¬ (false = true) by decide)] at H
             as_aux_lemma =>
              have H' := Aside0.mk H
              clear H
              obtain ⟨Ao54, co54, eo54⟩ := Kd.R_slice HO195.out
              subst eo54
              obtain ⟨Ao55, co55, eo55⟩ := Kd.R_slice HO_3.out
              subst eo55
              go_wp2_with (first | (refine gd 78 9 ?_; refine gc 78 Try.func9 #[.slice Ao54 t192.length co54, .slice Ao55 t167.length co55] (laws_eqStringS.calls kj24 _ _ t192 _ _ t167 false _ ax43 ((Kd.R_reads' HO195.out).2.1) ax42 ((Kd.R_reads' HO_3.out).2.1) A50.out) ?_; rintro e w' ⟨rfl, ⟨nd, rfl⟩⟩; refine ⟨_, rfl, ?_⟩))
              go_meet
              case rel => exact ⟨_, (true), ax6, H', ⟨ax44⟩, ⟨ax45⟩, ⟨ax10⟩⟩
           case rest =>
            clear HC43
            try clear c1
            try clear c2
            try clear c2b0
            try clear c2b1
            try clear p2
            try clear c3
            try clear c4
            try clear c5
            try clear c6
            try clear c7
            try clear c8
            try clear c9
            try clear c10
            try clear c11
            try clear c12
            try clear c13
            try clear c15
            try clear c20
            try clear c23
            try clear c29
            try clear c29b0
            try clear c31
            try clear c36
            try clear c39
            try clear c39b0
            try clear c40
            try clear c40b0
            try clear c40b1
            try clear c51
            try clear p2
            obtain ⟨kq, x84_42, rfl, HA, HJ42, HO_6, HB⟩ := hcut
            have hl6_42 := (Kd.R_reads' HO_6.out).1
            rw [hl6_42] at HO_6
            (try simp only [hl6_42])
            cases kq with
            | zero => exact absurd HA.out (by simp [laws_FnExactPlainCode.j2])
            | succ kj42 =>
             have H := HA.out; clear HA
             simp only [laws_FnExactPlainCode.j2] at H
             by_cases c56 : x84_42 = true
             ·subst c56
              rw [if_pos rfl] at H
              as_aux_lemma =>
               exact absurd ((Option.some.inj H).trans HRT.out) (by decide)
             ·replace c56 := Bool.eq_false_iff.mpr c56
              subst c56
              rw [if_neg (show ¬ (false = true) by decide)] at H
              obtain ⟨t197, A57, H⟩ := bs H
              by_cases c58 : t197 < 0
              ·rw [if_pos c58] at H
               have c58b0 : decide (t197 < 0) = true := decide_eq_true c58
               clear c58
               as_aux_lemma =>
                exact absurd ((Option.some.inj H).trans HRT.out) (by decide)
              ·rw [if_neg c58] at H
               have c58b0 : decide (t197 < 0) = false := decide_eq_false c58
               clear c58
               by_cases c59 : t197 = t186
               ·rw [if_pos c59] at H
                have c59b0 : (t197 == t186) = true := beq_iff_eq.mpr c59
                have c59b1 : (t197 != t186) = false := bne_eq_false_iff_eq.mpr c59
                clear c59
                as_aux_lemma =>
                 obtain rfl := Option.some.inj H
                 go_wp2_with (first | (refine gd 87 13 ?_; refine gc 87 Try.func13 #[.slice Ao44 t187.length co44, .int .i64 1] (laws_heldStringS.calls kj42 _ _ t187 1 t197 _ ax41 ((Kd.R_reads' HO_6.out).2.1) A57.out) ?_; rintro e w60 ⟨rfl, hb⟩; refine ⟨_, rfl, ?_⟩; replace HO_6 := uR HO_6 hb; replace HB := uB HB hb; (try clear hb); (try clear hb2); (try clear hk); (try clear hi)))
                 go_ret
                 exact ⟨ax15, by repeat (first | (with_reducible first | exact HB.out | apply below_alloc | apply pw_below_drewN | apply below_drew1) | exact HB.out)⟩
               ·rw [if_neg c59] at H
                have c59b0 : (t197 == t186) = false := beq_eq_false_iff_ne.mpr c59
                have c59b1 : (t197 != t186) = true := bne_iff_ne.mpr c59
                as_aux_lemma =>
                 exact absurd ((Option.some.inj H).trans HRT.out) (by decide)
          ·rw [if_neg c40] at H
           have c40b0 : (t188 == t186) = false := beq_eq_false_iff_ne.mpr c40
           have c40b1 : (t188 != t186) = true := bne_iff_ne.mpr c40
           as_aux_lemma =>
            exact absurd ((Option.some.inj H).trans HRT.out) (by decide)
     ·replace c23 := Bool.eq_false_iff.mpr c23
      subst c23
      rw [if_neg (show ¬ (false = true) by decide)] at H
      as_aux_lemma =>
       exact absurd ((Option.some.inj H).trans HRT.out) (by decide)

end Go.Proofs.Ytknonolfgpknjaa.X
