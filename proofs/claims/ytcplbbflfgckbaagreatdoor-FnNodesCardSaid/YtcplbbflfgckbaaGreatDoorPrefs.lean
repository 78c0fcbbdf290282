/- Plain: words under a prefix, what words have in common, what tells a word from others: over lists of letters. -/
import Derived.Test.YtcplbbflfgckbaaGreatDoorSets
set_option linter.unusedVariables false
set_option linter.unusedSimpArgs false
namespace Go.Proofs.YtcplbbflfgckbaaGreatDoor.Pl
open Go.RowKit Go.Proofs.YtcplbbflfgckbaaGreatDoorW.PrintWords Go.Proofs.YtcplbbflfgckbaaGreatDoorW.PrintLast Go.Proofs.YtcplbbflfgckbaaGreatDoorW.PrintMore
/-- The words that begin with p. -/
def underL (ws : List Wd) (p : Wd) : List Wd := ws.filter (fun w => p.isPrefixOf w)
theorem mem_under {ws : List Wd} {p w : Wd} : w ∈ underL ws p ↔ w ∈ ws ∧ p <+: w := by unfold underL; rw [List.mem_filter, List.isPrefixOf_iff_prefix]
theorem under_length (ws : List Wd) (p : Wd) : (underL ws p).length ≤ ws.length := List.length_filter_le _ _
end Go.Proofs.YtcplbbflfgckbaaGreatDoor.Pl

