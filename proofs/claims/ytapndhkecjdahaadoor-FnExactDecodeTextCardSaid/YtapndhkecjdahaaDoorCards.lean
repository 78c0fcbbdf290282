/-
  DERIVED. GIVEN WITH THE SEED: THE CARDS: each row of YtapndhkecjdahaaDoorRows.lean that lists a variable, with what it lists TIED to the program's text (the seventh form; the later family's looks); each row that meets fmt, with fmt's text TOLD by the authors' own Lean function (tested against real Go, not proved from fmt's source: count such statements apart). THE CARD IS WHAT COUNTS. Prove the row's statement (the work); the ties are given (YtapndhkecjdahaaDoorTie.lean); close each card by the builder's one call (the guide's Derived/Test/ToyasCard.lean, 'card_holds'). Laid BY PROGRAM, IN A SANDBOX (cutbox-door.mjs). By AI agents, Wed Nov 11 2026. No macro, syntax, notation, axiom, sorry.
-/
import Derived.Test.YtapndhkecjdahaaDoorRows
import GoSem.ClaimSeven
namespace Go.Proofs.YtapndhkecjdahaaDoor
namespace Rows

/-- THE TIED CARD OF 'laws.FnExactDecodeText'. -/
def fnExactDecodeTextCard : Claim7 := { stood := { row := fnExactDecodeTextRow, standIns := [], harness := (true, "b0c6b8f98d94e8a55b193f9b8c74696b64e4be11188e10bcc77e125e7f7d50b4"), looks := false }, kinds := [], alts := [], laidByText := true, laidKinds := [.data, .pinned], laidTests := true, laidLooks := .later }
def FnExactDecodeTextCardSaid : Prop := Claim7.holds Tryd.pinned (.plain (OpenSpec.ofChange fnExactDecodeTextSpec)) fnExactDecodeTextCard

/-- THE TIED CARD OF 'laws.FnExactBranchesOf'. -/
def fnExactBranchesOfCard : Claim7 := { stood := { row := fnExactBranchesOfRow, standIns := [], harness := (true, "b0c6b8f98d94e8a55b193f9b8c74696b64e4be11188e10bcc77e125e7f7d50b4"), looks := false }, kinds := [], alts := [], laidByText := true, laidKinds := [.data, .pinned], laidTests := true, laidLooks := .later }
def FnExactBranchesOfCardSaid : Prop := Claim7.holds Tryd.pinned (.plain (OpenSpec.ofChange fnExactBranchesOfSpec)) fnExactBranchesOfCard

/-- THE SECOND FORM's CARD OF 'laws.FnExactDecodeText'. -/
def fnExactDecodeTextUptoCard : Claim7 := { stood := { row := fnExactDecodeTextUptoRow, standIns := [], harness := (true, "b0c6b8f98d94e8a55b193f9b8c74696b64e4be11188e10bcc77e125e7f7d50b4"), looks := false }, kinds := [], alts := [], laidByText := true, laidKinds := [.data, .pinned], laidTests := true, laidLooks := .later }
def FnExactDecodeTextUptoCardSaid : Prop := Claim7.holds Tryd.pinned (.plain (OpenSpec.upto fnExactDecodeTextSpec)) fnExactDecodeTextUptoCard

/-- THE SECOND FORM's CARD OF 'laws.FnExactBranchesOf'. -/
def fnExactBranchesOfUptoCard : Claim7 := { stood := { row := fnExactBranchesOfUptoRow, standIns := [], harness := (true, "b0c6b8f98d94e8a55b193f9b8c74696b64e4be11188e10bcc77e125e7f7d50b4"), looks := false }, kinds := [], alts := [], laidByText := true, laidKinds := [.data, .pinned], laidTests := true, laidLooks := .later }
def FnExactBranchesOfUptoCardSaid : Prop := Claim7.holds Tryd.pinned (.plain (OpenSpec.upto fnExactBranchesOfSpec)) fnExactBranchesOfUptoCard
end Rows
end Go.Proofs.YtapndhkecjdahaaDoor
