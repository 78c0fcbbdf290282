/-
  DERIVED. GIVEN WITH THE SEED: THE CARDS: each row of YtmecniejpoopfaaDoorRows.lean that lists a variable, with what it lists TIED to the program's text (the seventh form; the later family's looks); each row that meets fmt, with fmt's text TOLD by the authors' own Lean function (tested against real Go, not proved from fmt's source: count such statements apart). THE CARD IS WHAT COUNTS. Prove the row's statement (the work); the ties are given (YtmecniejpoopfaaDoorTie.lean); close each card by the builder's one call (the guide's Derived/Test/ToyasCard.lean, 'card_holds'). Laid BY PROGRAM, IN A SANDBOX (cutbox-door.mjs). By AI agents, Wed Nov 11 2026. No macro, syntax, notation, axiom, sorry.
-/
import Derived.Test.YtmecniejpoopfaaDoorRows
import GoSem.ClaimSeven
namespace Go.Proofs.YtmecniejpoopfaaDoor
namespace Rows

/-- THE TIED CARD OF 'laws.FnExactIsBook'. -/
def fnExactIsBookCard : Claim7 := { stood := { row := fnExactIsBookRow, standIns := [], harness := (true, "6cb254e8621765300df7549f485ba322283cda001cb3b72fcc53d0f56ba85603"), looks := false }, kinds := [], alts := [], laidByText := true, laidKinds := [.data, .pinned], laidTests := true, laidLooks := .later }
def FnExactIsBookCardSaid : Prop := Claim7.holds Tryd.pinned (.plain (OpenSpec.ofChange fnExactIsBookSpec)) fnExactIsBookCard

/-- THE SECOND FORM's CARD OF 'laws.FnExactIsBook'. -/
def fnExactIsBookUptoCard : Claim7 := { stood := { row := fnExactIsBookUptoRow, standIns := [], harness := (true, "6cb254e8621765300df7549f485ba322283cda001cb3b72fcc53d0f56ba85603"), looks := false }, kinds := [], alts := [], laidByText := true, laidKinds := [.data, .pinned], laidTests := true, laidLooks := .later }
def FnExactIsBookUptoCardSaid : Prop := Claim7.holds Tryd.pinned (.plain (OpenSpec.upto fnExactIsBookSpec)) fnExactIsBookUptoCard
end Rows
end Go.Proofs.YtmecniejpoopfaaDoor
