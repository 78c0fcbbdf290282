/- Plain: when a text is a word, as the program asks it. -/
import Derived.Test.YtcplbbflfgckbaaGreatDoorX9
import Derived.Test.YtcplbbflfgckbaaGreatDoorTrim
set_option linter.unusedVariables false
set_option linter.unusedSimpArgs false
namespace Go.Proofs.YtcplbbflfgckbaaGreatDoor.Pl
open Go.RowKit Go.Proofs.YtcplbbflfgckbaaGreatDoorW.PrintWords Go.Proofs.YtcplbbflfgckbaaGreatDoorW.PrintLast Go.Proofs.YtcplbbflfgckbaaGreatDoorW.PrintMore Go.Proofs.YtcplbbflfgckbaaGreatDoor.X

theorem letter_iff (x : UInt8) : ([97, 98, 99, 100, 101, 102, 103, 104, 105, 106, 107, 108, 109, 110, 111, 112, 113, 114, 115, 116, 117, 118, 119, 120, 121, 122] : List UInt8).contains x = true ↔ 97 ≤ x.toNat ∧ x.toNat ≤ 122 := by
  simp only [List.contains_iff_mem, List.mem_cons, List.not_mem_nil, or_false, ← UInt8.toNat_inj, UInt8.reduceToNat]
  omega
theorem areLetters_eq (s : ByteArray) (hs : s.size ≤ 140737488351232) : impl_areLetters.f s = some (decide (∀ b ∈ bw s, 97 ≤ b.toNat ∧ b.toNat ≤ 122)) := by
  unfold impl_areLetters.f strings_Trim.f
  rw [if_pos ⟨by omega, by decide, by decide⟩, Option.bind_some]
  congr 1
  rw [Bool.eq_iff_iff, beq_iff_eq, toList_bytes, decide_eq_true_eq]
  have : (⟨(Lib.trimS s.data.toList (⟨#[97, 98, 99, 100, 101, 102, 103, 104, 105, 106, 107, 108, 109, 110, 111, 112, 113, 114, 115, 116, 117, 118, 119, 120, 121, 122]⟩ : ByteArray).data.toList).toArray⟩ : ByteArray).data.toList = Lib.trimS s.data.toList [97, 98, 99, 100, 101, 102, 103, 104, 105, 106, 107, 108, 109, 110, 111, 112, 113, 114, 115, 116, 117, 118, 119, 120, 121, 122] := by simp
  rw [this, trim_nil]
  exact forall_congr' fun x => forall_congr' fun _ => letter_iff x
theorem isWord_eq (s : ByteArray) (hs : s.size ≤ 140737488351232) : impl_isWord.f s = some (decide (okW (bw s))) := by
  unfold impl_isWord.f
  rw [areLetters_eq s hs]
  have hsz := bw_size s
  by_cases h : (s.size : Int) ≤ 12
  · rw [if_pos h, Option.bind_some]; congr 1; rw [decide_eq_decide]
    exact ⟨fun h2 => ⟨by omega, h2⟩, fun h2 => h2.2⟩
  · rw [if_neg h]; congr 1; symm; rw [decide_eq_false_iff_not]; exact fun h2 => h (by have := h2.1; omega)
end Go.Proofs.YtcplbbflfgckbaaGreatDoor.Pl

