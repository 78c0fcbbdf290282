/-
  DERIVED. GIVEN WITH THE SEED: THE CARDS: each row of YtlhhflfljhdgkaaDoorRows.lean that lists a variable, with what it lists TIED to the program's text (the seventh form; the later family's looks); each row that meets fmt, with fmt's text TOLD by the authors' own Lean function (tested against real Go, not proved from fmt's source: count such statements apart). THE CARD IS WHAT COUNTS. Prove the row's statement (the work); the ties are given (YtlhhflfljhdgkaaDoorTie.lean); close each card by the builder's one call (the guide's Derived/Test/ToyasCard.lean, 'card_holds'). Laid BY PROGRAM, IN A SANDBOX (cutbox-door.mjs). By AI agents, Wed Nov 11 2026. No macro, syntax, notation, axiom, sorry.
-/
import Derived.Test.YtlhhflfljhdgkaaDoorRows
import GoSem.ClaimSeven
namespace Go.Proofs.YtlhhflfljhdgkaaDoor
namespace Rows

/-- THE TIED CARD OF 'laws.FnExactIsCode'. -/
def fnExactIsCodeCard : Claim7 := { stood := { row := fnExactIsCodeRow, standIns := [], harness := (true, "2b7e6661016d46b9570bd15efc4ac591b5b13b0df90eea68245dce0a077d03ad"), looks := false }, kinds := [], alts := [], laidByText := true, laidKinds := [.data, .pinned], laidTests := true, laidLooks := .later }
def FnExactIsCodeCardSaid : Prop := Claim7.holds Tryd.pinned (.plain (OpenSpec.ofChange fnExactIsCodeSpec)) fnExactIsCodeCard

/-- THE TIED CARD OF 'laws.FnExactIsFullCode'. -/
def fnExactIsFullCodeCard : Claim7 := { stood := { row := fnExactIsFullCodeRow, standIns := [], harness := (true, "2b7e6661016d46b9570bd15efc4ac591b5b13b0df90eea68245dce0a077d03ad"), looks := false }, kinds := [], alts := [], laidByText := true, laidKinds := [.data, .pinned], laidTests := true, laidLooks := .later }
def FnExactIsFullCodeCardSaid : Prop := Claim7.holds Tryd.pinned (.plain (OpenSpec.ofChange fnExactIsFullCodeSpec)) fnExactIsFullCodeCard

/-- THE TIED CARD OF 'laws.FnExactEncodeMessage'. -/
def fnExactEncodeMessageCard : Claim7 := { stood := { row := fnExactEncodeMessageRow, standIns := [], harness := (true, "2b7e6661016d46b9570bd15efc4ac591b5b13b0df90eea68245dce0a077d03ad"), looks := false }, kinds := [], alts := [], laidByText := true, laidKinds := [.data, .pinned], laidTests := true, laidLooks := .later }
def FnExactEncodeMessageCardSaid : Prop := Claim7.holds Tryd.pinned (.plain (OpenSpec.ofChange fnExactEncodeMessageSpec)) fnExactEncodeMessageCard

/-- THE TIED CARD OF 'laws.FnExactEncodeRecord'. -/
def fnExactEncodeRecordCard : Claim7 := { stood := { row := fnExactEncodeRecordRow, standIns := [], harness := (true, "2b7e6661016d46b9570bd15efc4ac591b5b13b0df90eea68245dce0a077d03ad"), looks := false }, kinds := [], alts := [], laidByText := true, laidKinds := [.data, .data, .data], laidTests := true, laidLooks := .later }
def FnExactEncodeRecordCardSaid : Prop := Claim7.holds Tryd.pinned (.plain (OpenSpec.ofChange fnExactEncodeRecordSpec)) fnExactEncodeRecordCard

/-- THE SECOND FORM's CARD OF 'laws.FnExactIsCode'. -/
def fnExactIsCodeUptoCard : Claim7 := { stood := { row := fnExactIsCodeUptoRow, standIns := [], harness := (true, "2b7e6661016d46b9570bd15efc4ac591b5b13b0df90eea68245dce0a077d03ad"), looks := false }, kinds := [], alts := [], laidByText := true, laidKinds := [.data, .pinned], laidTests := true, laidLooks := .later }
def FnExactIsCodeUptoCardSaid : Prop := Claim7.holds Tryd.pinned (.plain (OpenSpec.upto fnExactIsCodeSpec)) fnExactIsCodeUptoCard

/-- THE SECOND FORM's CARD OF 'laws.FnExactIsFullCode'. -/
def fnExactIsFullCodeUptoCard : Claim7 := { stood := { row := fnExactIsFullCodeUptoRow, standIns := [], harness := (true, "2b7e6661016d46b9570bd15efc4ac591b5b13b0df90eea68245dce0a077d03ad"), looks := false }, kinds := [], alts := [], laidByText := true, laidKinds := [.data, .pinned], laidTests := true, laidLooks := .later }
def FnExactIsFullCodeUptoCardSaid : Prop := Claim7.holds Tryd.pinned (.plain (OpenSpec.upto fnExactIsFullCodeSpec)) fnExactIsFullCodeUptoCard

/-- THE SECOND FORM's CARD OF 'laws.FnExactEncodeMessage'. -/
def fnExactEncodeMessageUptoCard : Claim7 := { stood := { row := fnExactEncodeMessageUptoRow, standIns := [], harness := (true, "2b7e6661016d46b9570bd15efc4ac591b5b13b0df90eea68245dce0a077d03ad"), looks := false }, kinds := [], alts := [], laidByText := true, laidKinds := [.data, .pinned], laidTests := true, laidLooks := .later }
def FnExactEncodeMessageUptoCardSaid : Prop := Claim7.holds Tryd.pinned (.plain (OpenSpec.upto fnExactEncodeMessageSpec)) fnExactEncodeMessageUptoCard

/-- THE SECOND FORM's CARD OF 'laws.FnExactEncodeRecord'. -/
def fnExactEncodeRecordUptoCard : Claim7 := { stood := { row := fnExactEncodeRecordUptoRow, standIns := [], harness := (true, "2b7e6661016d46b9570bd15efc4ac591b5b13b0df90eea68245dce0a077d03ad"), looks := false }, kinds := [], alts := [], laidByText := true, laidKinds := [.data, .data, .data], laidTests := true, laidLooks := .later }
def FnExactEncodeRecordUptoCardSaid : Prop := Claim7.holds Tryd.pinned (.plain (OpenSpec.upto fnExactEncodeRecordSpec)) fnExactEncodeRecordUptoCard
end Rows
end Go.Proofs.YtlhhflfljhdgkaaDoor
