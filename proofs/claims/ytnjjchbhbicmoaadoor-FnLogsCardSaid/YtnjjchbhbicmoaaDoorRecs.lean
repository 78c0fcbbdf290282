/- Plain: the record test of the program and of the reference. No conditions. -/
import Derived.Test.YtnjjchbhbicmoaaDoorX3
import Derived.Test.YtnjjchbhbicmoaaDoorX6
import Derived.Test.YtnjjchbhbicmoaaDoorPl
set_option linter.unusedVariables false
set_option linter.unusedSimpArgs false
namespace Go.Proofs.YtnjjchbhbicmoaaDoor.Pl
open Go.RowKit Go.Proofs.YtnjjchbhbicmoaaDoorW.PrintWords Go.Proofs.YtnjjchbhbicmoaaDoorW.PrintLast Go.Proofs.YtnjjchbhbicmoaaDoorW.PrintMore Go.Proofs.YtnjjchbhbicmoaaDoor.X

def okB (c : Int) : Bool := decide (32 ≤ c) && decide (c ≤ 126) && decide (c ≠ 35)
theorem l12Bytes_ev (s : ByteArray) (m : Int) (hs : s.size ≤ 140737488351232) : Ev (fun k => spec_l12Bytes.f k s m) ((bytesOf s).all okB && decide ((s.size : Int) ≤ m)) := by
  have key := ev_down (g := fun k i => spec_l12Bytes.l0 k s m (i : Nat)) (R := fun i => ((bytesOf s).drop i).all okB && decide ((s.size : Int) ≤ m)) s.size
    (by
      refine Ev.step (fun k => by simp only [spec_l12Bytes.l0]; rfl) ?_
      refine ev_neg (by omega) (ev_eq ?_)
      simp [bytes_end])
    (fun i hi ih => by
      refine Ev.step (fun k => by simp only [spec_l12Bytes.l0]; rfl) ?_
      have hb := bt_range s (i : Int)
      refine ev_pos (by omega) (ev_pos (by omega) ?_)
      have e1 : wrap64 ((i : Int) + 1) = ((i + 1 : Nat) : Int) := by rw [w64 (by omega) (by omega)]; omega
      have e2 : wrap64 (bt s i) = bt s i := w64 (by omega) (by omega)
      simp only [e1, e2, bytes_drop hi, List.all_cons, spec_l1In.f]
      by_cases h1 : bt s i ≥ 32
      · simp only [if_pos h1, Option.bind_some]
        by_cases h2 : bt s i ≤ 126
        · simp only [h2, decide_true, if_true]
          by_cases h3 : bt s i = 35
          · simp only [h3, if_true]; exact ev_eq (by simp [okB])
          · simp only [if_neg h3]
            have : okB (bt s i) = true := by simp [okB, h3, h2]; omega
            rw [this]; simpa using ih
        · simp only [h2, decide_false]
          exact ev_eq (by simp [okB, h2])
      · simp only [if_neg h1, Option.bind_some]
        exact ev_eq (by have : ¬ (32 ≤ bt s i) := by omega
                        simp [okB, this]))
  have := key 0 (by omega)
  simpa [spec_l12Bytes.f] using this
theorem l1Stands_ev (s : ByteArray) (c : Int) (hs : s.size ≤ 140737488351232) : Ev (fun k => spec_l1Stands.f k s c) ((bytesOf s).any (fun b => decide (b = c))) := by
  have key := ev_down (g := fun k i => spec_l1Stands.l0 k s c (i : Nat)) (R := fun i => ((bytesOf s).drop i).any (fun b => decide (b = c))) s.size
    (by
      refine Ev.step (fun k => by simp only [spec_l1Stands.l0]; rfl) ?_
      refine ev_neg (by omega) (ev_eq ?_)
      simp [bytes_end])
    (fun i hi ih => by
      refine Ev.step (fun k => by simp only [spec_l1Stands.l0]; rfl) ?_
      refine ev_pos (by omega) (ev_pos (by omega) ?_)
      have e1 : wrap64 ((i : Int) + 1) = ((i + 1 : Nat) : Int) := by rw [w64 (by omega) (by omega)]; omega
      simp only [e1, bytes_drop hi, List.any_cons]
      by_cases h : bt s i = c
      · simp only [h, if_true]; exact ev_eq (by simp)
      · simp only [if_neg h]; simpa [h] using ih)
  have := key 0 (by omega)
  simpa [spec_l1Stands.f] using this
def okP (but : ByteArray) (c : Int) : Bool := decide (32 ≤ c) && decide (c ≤ 126) && decide (c ∉ bytesOf but)
theorem isPlainText_ev (s : ByteArray) (lo hi : Int) (but : ByteArray) (hs : s.size ≤ 140737488351232) :
    Ev (fun k => impl_isPlainText.f k s lo hi but) ((bytesOf s).all (okP but) && (decide (lo ≤ s.size) && decide ((s.size : Int) ≤ hi))) := by
  have key := ev_down (g := fun k i => impl_isPlainText.l0 k s lo hi but (s.size : Int) (i : Nat)) (R := fun i => ((bytesOf s).drop i).all (okP but) && (decide (lo ≤ s.size) && decide ((s.size : Int) ≤ hi))) s.size
    (by
      refine Ev.step (fun k => by simp only [impl_isPlainText.l0]; rfl) ?_
      refine ev_neg (by omega) ?_
      simp only [impl_in.f]
      by_cases h : (s.size : Int) ≥ lo
      · have h' : lo ≤ (s.size : Int) := h
        simp only [if_pos h, Option.bind_some]
        exact ev_eq (by simp [bytes_end, h'])
      · have h' : ¬ lo ≤ (s.size : Int) := h
        simp only [if_neg h, Option.bind_some]
        exact ev_eq (by simp [h']))
    (fun i hi ih => by
      refine Ev.step (fun k => by simp only [impl_isPlainText.l0]; rfl) ?_
      have hb := bt_range s (i : Int)
      refine ev_pos (by omega) (ev_pos (by omega) (ev_pos (by omega) ?_))
      have e1 : wrap64 ((i : Int) + 1) = ((i + 1 : Nat) : Int) := by rw [w64 (by omega) (by omega)]; omega
      simp only [e1, bytes_drop hi, List.all_cons, strings_IndexByte.f, Option.bind_some]
      by_cases h1 : bt s i < 32
      · simp only [if_pos h1]; exact ev_eq (by have : ¬ 32 ≤ bt s i := by omega
                                               simp [okP, this])
      · simp only [if_neg h1]
        by_cases h2 : bt s i > 126
        · simp only [if_pos h2]; exact ev_eq (by have : ¬ bt s i ≤ 126 := by omega
                                                 simp [okP, this])
        · simp only [if_neg h2]
          have hm : (bt s i).toNat.toUInt8 ∈ but.data.toList ↔ bt s i ∈ bytesOf but := by
            unfold bytesOf
            rw [List.mem_map]
            constructor
            · intro h
              refine ⟨_, h, ?_⟩
              simp only [Nat.toUInt8, UInt8.toNat_ofNat']
              omega
            · rintro ⟨b, hb1, hb2⟩
              have : (bt s i).toNat.toUInt8 = b := by
                rw [← hb2]; simp
              rw [this]; exact hb1
          by_cases h3 : Lib.indexByte but.data.toList (bt s i).toNat.toUInt8 ≥ 0
          · simp only [if_pos h3]
            have : bt s i ∈ bytesOf but := by
              refine hm.1 (Classical.byContradiction fun hn => ?_)
              have := (indexByte_neg _ _).2 hn
              omega
            exact ev_eq (by simp [okP, this])
          · simp only [if_neg h3]
            have h4 : bt s i ∉ bytesOf but := fun hn => (indexByte_neg _ _).1 (by omega) (hm.2 hn)
            have : okP but (bt s i) = true := by simp [okP, h4]; omega
            rw [this]; simpa using ih)
  have := key 0 (by omega)
  simpa [impl_isPlainText.f] using this
theorem all_split {l : List Int} {p q r : Int → Bool} (h : ∀ x, p x = (q x && r x)) : l.all p = (l.all q && l.all r) := by
  induction l with
  | nil => rfl
  | cons a l ih => simp only [List.all_cons, ih, h]; cases q a <;> cases r a <;> cases l.all q <;> simp
def recB (c r : ByteArray) : Bool := !(bytesOf c).isEmpty && ((bytesOf c).all okB && decide ((c.size : Int) ≤ 160)) && !(bytesOf c).any (fun b => decide (b = 64)) && ((bytesOf r).all okB && decide ((r.size : Int) ≤ 520))
theorem l12Record_ev (c r : ByteArray) (hc : c.size ≤ 140737488351232) (hr : r.size ≤ 140737488351232) : Ev (fun k => spec_l12Record.f k c r) (recB c r) := by
  unfold spec_l12Record.f
  refine ev_ite (fun h => ev_eq ?_) (fun h => ?_)
  · simp [recB, bytes_nil.1 h]
  · have hne : (bytesOf c).isEmpty = false := by
      cases hb : bytesOf c with
      | nil => exact absurd (bytes_nil.2 hb) h
      | cons _ _ => rfl
    refine Ev.bind (l12Bytes_ev c 160 hc) (ev_ite (fun h1 => ?_) (fun h1 => ev_eq ?_))
    · refine Ev.bind (l1Stands_ev c 64 hc) (ev_ite (fun h2 => ev_eq ?_) (fun h2 => ?_))
      · unfold recB; rw [h2]; simp
      · refine Ev.bind (l12Bytes_ev r 520 hr) (ev_eq ?_)
        unfold recB; rw [hne, h1, Bool.eq_false_iff.2 h2]; simp
    · unfold recB; rw [Bool.eq_false_iff.2 h1]; simp
theorem implRecord_ev (c r : ByteArray) (hc : c.size ≤ 140737488351232) (hr : r.size ≤ 140737488351232) : Ev (fun k => impl_IsValidRecord.f k c r) (recB c r) := by
  have e1 : ((bytesOf c).all (okP ⟨#[35, 64]⟩) && (decide ((1 : Int) ≤ c.size) && decide ((c.size : Int) ≤ 160))) = (!(bytesOf c).isEmpty && ((bytesOf c).all okB && decide ((c.size : Int) ≤ 160)) && !(bytesOf c).any (fun b => decide (b = 64))) := by
    have h1 : (bytesOf c).all (okP ⟨#[35, 64]⟩) = ((bytesOf c).all okB && (bytesOf c).all (fun b => !decide (b = 64))) := all_split (fun x => by
      have : (bytesOf ⟨#[35, 64]⟩ : List Int) = [35, 64] := rfl
      simp only [okP, okB, this]; by_cases a : x = 35 <;> by_cases b : x = 64 <;> simp [a, b])
    have h2 : (decide ((1 : Int) ≤ c.size)) = !(bytesOf c).isEmpty := by
      rw [← bytes_size]; cases bytesOf c <;> simp <;> omega
    have h3 : (bytesOf c).all (fun b => !decide (b = 64)) = !(bytesOf c).any (fun b => decide (b = 64)) := by
      induction bytesOf c with
      | nil => rfl
      | cons a l ih => simp only [List.all_cons, List.any_cons, ih, Bool.not_or]
    rw [h1, h2, h3]
    cases (bytesOf c).isEmpty <;> cases (bytesOf c).all okB <;> cases decide ((c.size : Int) ≤ 160) <;> cases (bytesOf c).any (fun b => decide (b = 64)) <;> rfl
  have e2 : ((bytesOf r).all (okP ⟨#[35]⟩) && (decide ((0 : Int) ≤ r.size) && decide ((r.size : Int) ≤ 520))) = ((bytesOf r).all okB && decide ((r.size : Int) ≤ 520)) := by
    have h1 : (bytesOf r).all (okP ⟨#[35]⟩) = (bytesOf r).all okB := by
      congr 1; funext x
      have : (bytesOf ⟨#[35]⟩ : List Int) = [35] := rfl
      simp only [okP, okB, this]; by_cases a : x = 35 <;> simp [a]
    have h0 : (0 : Int) ≤ r.size := by omega
    rw [h1]; simp [h0]
  unfold impl_IsValidRecord.f
  refine Ev.bind (isPlainText_ev c 1 160 ⟨#[35, 64]⟩ hc) (ev_ite (fun h => ?_) (fun h => ev_eq ?_))
  · refine Ev.bind (isPlainText_ev r 0 520 ⟨#[35]⟩ hr) (ev_eq ?_)
    rw [e1] at h; rw [e2]; unfold recB; rw [h]; rfl
  · rw [e1] at h
    unfold recB; rw [Bool.eq_false_iff.2 h]; rfl
end Go.Proofs.YtnjjchbhbicmoaaDoor.Pl
