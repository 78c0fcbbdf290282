/-
  DERIVED. GIVEN WITH THE SEED: THE CARDS: each row of YtmecniejpoopfaaGreatDoorRows.lean that lists a variable, with what it lists TIED to the program's text (the seventh form; the later family's looks); each row that meets fmt, with fmt's text TOLD by the authors' own Lean function (tested against real Go, not proved from fmt's source: count such statements apart). THE CARD IS WHAT COUNTS. Prove the row's statement (the work); the ties are given (YtmecniejpoopfaaGreatDoorTie.lean); close each card by the builder's one call (the guide's Derived/Test/ToyasCard.lean, 'card_holds'). Laid BY PROGRAM, IN A SANDBOX (cutbox-door.mjs). By AI agents, Wed Nov 11 2026. No macro, syntax, notation, axiom, sorry.
-/
import Derived.Test.YtmecniejpoopfaaGreatDoorRows
import GoSem.ClaimSeven
namespace Go.Proofs.YtmecniejpoopfaaGreatDoor
namespace Rows

/-- THE TIED CARD OF 'laws.FnExactNewBook'. -/
def fnExactNewBookCard : Claim7 := { stood := { row := fnExactNewBookRow, standIns := [], harness := (true, "a8069dd19b5d8f3ca8ece4902bae21614c0363bf97c571983dd6b0645e87aa18"), looks := false }, kinds := [], alts := [], laidByText := true, laidKinds := [.data, .pinned], laidTests := true, laidLooks := .later }
def FnExactNewBookCardSaid : Prop := Claim7.holds Tryz.pinned (.plain (OpenSpec.ofChange fnExactNewBookSpec)) fnExactNewBookCard

/-- THE TIED CARD OF 'laws.FnExactNewConsole'. -/
def fnExactNewConsoleCard : Claim7 := { stood := { row := fnExactNewConsoleRow, standIns := [], harness := (true, "a8069dd19b5d8f3ca8ece4902bae21614c0363bf97c571983dd6b0645e87aa18"), looks := false }, kinds := [], alts := [], laidByText := true, laidKinds := [.data, .pinned], laidTests := true, laidLooks := .later }
def FnExactNewConsoleCardSaid : Prop := Claim7.holds Tryz.pinned (.plain (OpenSpec.ofChange fnExactNewConsoleSpec)) fnExactNewConsoleCard

/-- THE TIED CARD OF 'laws.FnExactTrieOfBook'. -/
def fnExactTrieOfBookCard : Claim7 := { stood := { row := fnExactTrieOfBookRow, standIns := [], harness := (true, "a8069dd19b5d8f3ca8ece4902bae21614c0363bf97c571983dd6b0645e87aa18"), looks := false }, kinds := [], alts := [], laidByText := true, laidKinds := [.data, .pinned], laidTests := true, laidLooks := .later }
def FnExactTrieOfBookCardSaid : Prop := Claim7.holds Tryz.pinned (.plain (OpenSpec.ofChange fnExactTrieOfBookSpec)) fnExactTrieOfBookCard

/-- THE TIED CARD OF 'laws.FnExactDoDeed'. -/
def fnExactDoDeedCard : Claim7 := { stood := { row := fnExactDoDeedRow, standIns := [], harness := (true, "a8069dd19b5d8f3ca8ece4902bae21614c0363bf97c571983dd6b0645e87aa18"), looks := false }, kinds := [], alts := [], laidByText := true, laidKinds := [.data, .pinned], laidTests := true, laidLooks := .later }
def FnExactDoDeedCardSaid : Prop := Claim7.holds Tryz.pinned (.plain (OpenSpec.ofChange fnExactDoDeedSpec)) fnExactDoDeedCard

/-- THE TIED CARD OF 'laws.FnExactDoDeeds'. -/
def fnExactDoDeedsCard : Claim7 := { stood := { row := fnExactDoDeedsRow, standIns := [], harness := (true, "a8069dd19b5d8f3ca8ece4902bae21614c0363bf97c571983dd6b0645e87aa18"), looks := false }, kinds := [], alts := [], laidByText := true, laidKinds := [.data, .pinned], laidTests := true, laidLooks := .later }
def FnExactDoDeedsCardSaid : Prop := Claim7.holds Tryz.pinned (.plain (OpenSpec.ofChange fnExactDoDeedsSpec)) fnExactDoDeedsCard

/-- THE SECOND FORM's CARD OF 'laws.FnExactNewBook'. -/
def fnExactNewBookUptoCard : Claim7 := { stood := { row := fnExactNewBookUptoRow, standIns := [], harness := (true, "a8069dd19b5d8f3ca8ece4902bae21614c0363bf97c571983dd6b0645e87aa18"), looks := false }, kinds := [], alts := [], laidByText := true, laidKinds := [.data, .pinned], laidTests := true, laidLooks := .later }
def FnExactNewBookUptoCardSaid : Prop := Claim7.holds Tryz.pinned (.plain (OpenSpec.upto fnExactNewBookSpec)) fnExactNewBookUptoCard

/-- THE SECOND FORM's CARD OF 'laws.FnExactNewConsole'. -/
def fnExactNewConsoleUptoCard : Claim7 := { stood := { row := fnExactNewConsoleUptoRow, standIns := [], harness := (true, "a8069dd19b5d8f3ca8ece4902bae21614c0363bf97c571983dd6b0645e87aa18"), looks := false }, kinds := [], alts := [], laidByText := true, laidKinds := [.data, .pinned], laidTests := true, laidLooks := .later }
def FnExactNewConsoleUptoCardSaid : Prop := Claim7.holds Tryz.pinned (.plain (OpenSpec.upto fnExactNewConsoleSpec)) fnExactNewConsoleUptoCard

/-- THE SECOND FORM's CARD OF 'laws.FnExactTrieOfBook'. -/
def fnExactTrieOfBookUptoCard : Claim7 := { stood := { row := fnExactTrieOfBookUptoRow, standIns := [], harness := (true, "a8069dd19b5d8f3ca8ece4902bae21614c0363bf97c571983dd6b0645e87aa18"), looks := false }, kinds := [], alts := [], laidByText := true, laidKinds := [.data, .pinned], laidTests := true, laidLooks := .later }
def FnExactTrieOfBookUptoCardSaid : Prop := Claim7.holds Tryz.pinned (.plain (OpenSpec.upto fnExactTrieOfBookSpec)) fnExactTrieOfBookUptoCard

/-- THE SECOND FORM's CARD OF 'laws.FnExactDoDeed'. -/
def fnExactDoDeedUptoCard : Claim7 := { stood := { row := fnExactDoDeedUptoRow, standIns := [], harness := (true, "a8069dd19b5d8f3ca8ece4902bae21614c0363bf97c571983dd6b0645e87aa18"), looks := false }, kinds := [], alts := [], laidByText := true, laidKinds := [.data, .pinned], laidTests := true, laidLooks := .later }
def FnExactDoDeedUptoCardSaid : Prop := Claim7.holds Tryz.pinned (.plain (OpenSpec.upto fnExactDoDeedSpec)) fnExactDoDeedUptoCard

/-- THE SECOND FORM's CARD OF 'laws.FnExactDoDeeds'. -/
def fnExactDoDeedsUptoCard : Claim7 := { stood := { row := fnExactDoDeedsUptoRow, standIns := [], harness := (true, "a8069dd19b5d8f3ca8ece4902bae21614c0363bf97c571983dd6b0645e87aa18"), looks := false }, kinds := [], alts := [], laidByText := true, laidKinds := [.data, .pinned], laidTests := true, laidLooks := .later }
def FnExactDoDeedsUptoCardSaid : Prop := Claim7.holds Tryz.pinned (.plain (OpenSpec.upto fnExactDoDeedsSpec)) fnExactDoDeedsUptoCard
end Rows
end Go.Proofs.YtmecniejpoopfaaGreatDoor
