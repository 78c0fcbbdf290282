/-
  DERIVED. GIVEN WITH THE SEED: THE CARDS: each row of YtcbjfflaamlpcaaDoorRows.lean that lists a variable, with what it lists TIED to the program's text (the seventh form; the later family's looks); each row that meets fmt, with fmt's text TOLD by the authors' own Lean function (tested against real Go, not proved from fmt's source: count such statements apart). THE CARD IS WHAT COUNTS. Prove the row's statement (the work); the ties are given (YtcbjfflaamlpcaaDoorTie.lean); close each card by the builder's one call (the guide's Derived/Test/ToyasCard.lean, 'card_holds'). Laid BY PROGRAM, IN A SANDBOX (cutbox-door.mjs). By AI agents, Wed Nov 11 2026. No macro, syntax, notation, axiom, sorry.
-/
import Derived.Test.YtcbjfflaamlpcaaDoorRows
import GoSem.ClaimSeven
namespace Go.Proofs.YtcbjfflaamlpcaaDoor
namespace Rows

/-- THE TIED CARD OF 'laws.FnExactPlayLetters'. -/
def fnExactPlayLettersCard : Claim7 := { stood := { row := fnExactPlayLettersRow, standIns := [], harness := (true, "8c24cde95125408c626528a508a616cafba9f9fefa6646672e14dc760c9604ae"), looks := false }, kinds := [], alts := [], laidByText := true, laidKinds := [.data, .pinned], laidTests := true, laidLooks := .later }
def FnExactPlayLettersCardSaid : Prop := Claim7.holds Tryd.pinned (.plain (OpenSpec.ofChange fnExactPlayLettersSpec)) fnExactPlayLettersCard

/-- THE TIED CARD OF 'laws.FnExactBranchesOf'. -/
def fnExactBranchesOfCard : Claim7 := { stood := { row := fnExactBranchesOfRow, standIns := [], harness := (true, "8c24cde95125408c626528a508a616cafba9f9fefa6646672e14dc760c9604ae"), looks := false }, kinds := [], alts := [], laidByText := true, laidKinds := [.data, .pinned], laidTests := true, laidLooks := .later }
def FnExactBranchesOfCardSaid : Prop := Claim7.holds Tryd.pinned (.plain (OpenSpec.ofChange fnExactBranchesOfSpec)) fnExactBranchesOfCard

/-- THE SECOND FORM's CARD OF 'laws.FnExactPlayLetters'. -/
def fnExactPlayLettersUptoCard : Claim7 := { stood := { row := fnExactPlayLettersUptoRow, standIns := [], harness := (true, "8c24cde95125408c626528a508a616cafba9f9fefa6646672e14dc760c9604ae"), looks := false }, kinds := [], alts := [], laidByText := true, laidKinds := [.data, .pinned], laidTests := true, laidLooks := .later }
def FnExactPlayLettersUptoCardSaid : Prop := Claim7.holds Tryd.pinned (.plain (OpenSpec.upto fnExactPlayLettersSpec)) fnExactPlayLettersUptoCard

/-- THE SECOND FORM's CARD OF 'laws.FnExactBranchesOf'. -/
def fnExactBranchesOfUptoCard : Claim7 := { stood := { row := fnExactBranchesOfUptoRow, standIns := [], harness := (true, "8c24cde95125408c626528a508a616cafba9f9fefa6646672e14dc760c9604ae"), looks := false }, kinds := [], alts := [], laidByText := true, laidKinds := [.data, .pinned], laidTests := true, laidLooks := .later }
def FnExactBranchesOfUptoCardSaid : Prop := Claim7.holds Tryd.pinned (.plain (OpenSpec.upto fnExactBranchesOfSpec)) fnExactBranchesOfUptoCard
end Rows
end Go.Proofs.YtcbjfflaamlpcaaDoor
