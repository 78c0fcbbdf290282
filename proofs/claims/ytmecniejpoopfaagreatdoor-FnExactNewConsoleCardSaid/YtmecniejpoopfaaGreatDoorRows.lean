/-
  NARROWER THAN 'FOR EVERY INPUT', by the rows' own cells (each row's printed sentence says how): FnExactNewBook: laid · FnExactNewConsole: laid · FnExactTrieOfBook: laid · FnExactDoDeed: laid · FnExactDoDeeds: laid.
  DERIVED. THE GIVEN ROWS OF THIS SEAT. 5 by the template 'for every input the law returns true; each argument reads behind the call as it read before'; 0 by the template 'total and deterministic' (their statements: YtmecniejpoopfaaGreatDoorTotals.lean).
  GIVEN WITH THE SEED: the statements are not yours to turn. If you find one false, say at which input.
  Laid BY PROGRAM, IN A SANDBOX (cutbox-rows.mjs): the forced cells as the released guide's own fill.sh prints them over the translation 409ac7312ecbd568… (all of the seat's roots in one cut). By AI agents, Wed Nov 11 2026. No macro, syntax, notation, axiom, sorry.
-/
import Derived.Test.YtmecniejpoopfaaGreatDoorChecked
import GoSem.PinnedTables
import GoSem.Claim
import GoSem.ClaimJoined
import GoSem.ClaimMapViews
import Derived.JoinedTies
import Derived.KernelRfl
namespace Go.Proofs.YtmecniejpoopfaaGreatDoor
/- THE CELL 'sum', in the pinned program and in every row, IS THE sha256 OF THE DUMP (.gsa) THAT YtmecniejpoopfaaGreatDoorProg.lean LOADS. Nothing in Lean hashes anything: it is a label: what it is worth is what the hold of that sum in a sandbox is worth. -/
noncomputable def Tryz.pinned : Pinned := { name := "ytmecniejpoopfaagreatdoor", sum := "409ac7312ecbd568925a4958c30520cf9f85d191eb86059d18f56b4da7e9c61f", checked := Tryz.checked }
namespace Rows
def none {H : Type} : Left H := { results := [], args := [] }

/- WHAT THE LISTED PACKAGE-LEVEL VARIABLES READ AS WHEN THE CALL BEGINS. Each datum BY PROGRAM (the guide's laid-datum.mjs) off the statement by which the dump's own 'gosem.cut.vars' lays the variable. In a bare row this is a premise. The card (YtmecniejpoopfaaGreatDoorCards.lean) ties it to the program's text. -/
def laid_unicode_utf8_acceptRanges {H : Type} : DataW H := .agg [.agg [.lit (.int .u8 128), .lit (.int .u8 191)], .agg [.lit (.int .u8 160), .lit (.int .u8 191)], .agg [.lit (.int .u8 128), .lit (.int .u8 159)], .agg [.lit (.int .u8 144), .lit (.int .u8 191)], .agg [.lit (.int .u8 128), .lit (.int .u8 143)], .agg [.lit (.int .u8 0), .lit (.int .u8 0)], .agg [.lit (.int .u8 0), .lit (.int .u8 0)], .agg [.lit (.int .u8 0), .lit (.int .u8 0)], .agg [.lit (.int .u8 0), .lit (.int .u8 0)], .agg [.lit (.int .u8 0), .lit (.int .u8 0)], .agg [.lit (.int .u8 0), .lit (.int .u8 0)], .agg [.lit (.int .u8 0), .lit (.int .u8 0)], .agg [.lit (.int .u8 0), .lit (.int .u8 0)], .agg [.lit (.int .u8 0), .lit (.int .u8 0)], .agg [.lit (.int .u8 0), .lit (.int .u8 0)], .agg [.lit (.int .u8 0), .lit (.int .u8 0)]]
/-- One of Go's own tables, pinned by name: the form's constant. -/
def laid_unicode_utf8_first : DataW Unit := Go.Pinned.utf8First

/-- 'laws.FnExactNewBook': WHATEVER THE INPUT: true; the input reads as it did. -/
def fnExactNewBookSpec : ChangeSpec := { name := "fnExactNewBook", fn := fun _ => fun
  | [d] => { results := [.lit (.bool true)], args := [d] }
  | _ => none }
def fnExactNewBookRow : OpenClaim := { program := "ytmecniejpoopfaagreatdoor", sum := "409ac7312ecbd568925a4958c30520cf9f85d191eb86059d18f56b4da7e9c61f", func := "loop.example/g01243/laws.FnExactNewBook", spec := "fnExactNewBook", inPlace := ["internal/abi.NoEscape", "internal/bytealg.MakeNoZero", "internal/bytealg.IndexByteString", "internal/bytealg.IndexString", "internal/bytealg.CountString"], unfollowed := true, recurses := true, named := ["unicode/utf8.first", "unicode/utf8.acceptRanges", "internal/bytealg.MaxLen"], apart := false, laid := [("unicode/utf8.acceptRanges", laid_unicode_utf8_acceptRanges), ("unicode/utf8.first", laid_unicode_utf8_first)] }
def FnExactNewBookSaid : Prop := fnExactNewBookRow.holds Tryz.pinned (OpenSpec.ofChange fnExactNewBookSpec)

/-- ITS FALSE NEIGHBOUR: 'it returns false'. Refute it at one input. -/
def fnExactNewBookWrong : ChangeSpec := { name := "fnExactNewBook", fn := fun _ => fun
  | [d] => { results := [.lit (.bool false)], args := [d] }
  | _ => none }
def FnExactNewBookWrongFalsely : Prop := fnExactNewBookRow.holds Tryz.pinned (OpenSpec.ofChange fnExactNewBookWrong)

/-- 'laws.FnExactNewConsole': WHATEVER THE INPUT: true; the input reads as it did. -/
def fnExactNewConsoleSpec : ChangeSpec := { name := "fnExactNewConsole", fn := fun _ => fun
  | [d] => { results := [.lit (.bool true)], args := [d] }
  | _ => none }
def fnExactNewConsoleRow : OpenClaim := { program := "ytmecniejpoopfaagreatdoor", sum := "409ac7312ecbd568925a4958c30520cf9f85d191eb86059d18f56b4da7e9c61f", func := "loop.example/g01243/laws.FnExactNewConsole", spec := "fnExactNewConsole", inPlace := ["internal/bytealg.CountString", "internal/bytealg.IndexByteString", "internal/bytealg.IndexString"], unfollowed := true, recurses := true, named := ["unicode/utf8.first", "unicode/utf8.acceptRanges", "internal/bytealg.MaxLen"], apart := false, laid := [("unicode/utf8.acceptRanges", laid_unicode_utf8_acceptRanges), ("unicode/utf8.first", laid_unicode_utf8_first)] }
def FnExactNewConsoleSaid : Prop := fnExactNewConsoleRow.holds Tryz.pinned (OpenSpec.ofChange fnExactNewConsoleSpec)

/-- ITS FALSE NEIGHBOUR: 'it returns false'. Refute it at one input. -/
def fnExactNewConsoleWrong : ChangeSpec := { name := "fnExactNewConsole", fn := fun _ => fun
  | [d] => { results := [.lit (.bool false)], args := [d] }
  | _ => none }
def FnExactNewConsoleWrongFalsely : Prop := fnExactNewConsoleRow.holds Tryz.pinned (OpenSpec.ofChange fnExactNewConsoleWrong)

/-- 'laws.FnExactTrieOfBook': WHATEVER THE INPUT: true; the input reads as it did. -/
def fnExactTrieOfBookSpec : ChangeSpec := { name := "fnExactTrieOfBook", fn := fun _ => fun
  | [d] => { results := [.lit (.bool true)], args := [d] }
  | _ => none }
def fnExactTrieOfBookRow : OpenClaim := { program := "ytmecniejpoopfaagreatdoor", sum := "409ac7312ecbd568925a4958c30520cf9f85d191eb86059d18f56b4da7e9c61f", func := "loop.example/g01243/laws.FnExactTrieOfBook", spec := "fnExactTrieOfBook", inPlace := ["internal/bytealg.CountString", "internal/bytealg.IndexByteString", "internal/bytealg.IndexString"], unfollowed := true, recurses := true, named := ["unicode/utf8.first", "unicode/utf8.acceptRanges", "internal/bytealg.MaxLen"], apart := false, laid := [("unicode/utf8.acceptRanges", laid_unicode_utf8_acceptRanges), ("unicode/utf8.first", laid_unicode_utf8_first)] }
def FnExactTrieOfBookSaid : Prop := fnExactTrieOfBookRow.holds Tryz.pinned (OpenSpec.ofChange fnExactTrieOfBookSpec)

/-- ITS FALSE NEIGHBOUR: 'it returns false'. Refute it at one input. -/
def fnExactTrieOfBookWrong : ChangeSpec := { name := "fnExactTrieOfBook", fn := fun _ => fun
  | [d] => { results := [.lit (.bool false)], args := [d] }
  | _ => none }
def FnExactTrieOfBookWrongFalsely : Prop := fnExactTrieOfBookRow.holds Tryz.pinned (OpenSpec.ofChange fnExactTrieOfBookWrong)

/-- 'laws.FnExactDoDeed': WHATEVER THE INPUT: true; the input reads as it did. -/
def fnExactDoDeedSpec : ChangeSpec := { name := "fnExactDoDeed", fn := fun _ => fun
  | [d1, d2] => { results := [.lit (.bool true)], args := [d1, d2] }
  | _ => none }
def fnExactDoDeedRow : OpenClaim := { program := "ytmecniejpoopfaagreatdoor", sum := "409ac7312ecbd568925a4958c30520cf9f85d191eb86059d18f56b4da7e9c61f", func := "loop.example/g01243/laws.FnExactDoDeed", spec := "fnExactDoDeed", inPlace := ["internal/bytealg.CountString", "internal/bytealg.IndexByteString", "internal/bytealg.IndexString", "internal/abi.NoEscape", "internal/bytealg.MakeNoZero"], unfollowed := true, recurses := true, named := ["unicode/utf8.first", "unicode/utf8.acceptRanges", "internal/bytealg.MaxLen"], apart := false, laid := [("unicode/utf8.acceptRanges", laid_unicode_utf8_acceptRanges), ("unicode/utf8.first", laid_unicode_utf8_first)] }
def FnExactDoDeedSaid : Prop := fnExactDoDeedRow.holds Tryz.pinned (OpenSpec.ofChange fnExactDoDeedSpec)

/-- ITS FALSE NEIGHBOUR: 'it returns false'. Refute it at one input. -/
def fnExactDoDeedWrong : ChangeSpec := { name := "fnExactDoDeed", fn := fun _ => fun
  | [d1, d2] => { results := [.lit (.bool false)], args := [d1, d2] }
  | _ => none }
def FnExactDoDeedWrongFalsely : Prop := fnExactDoDeedRow.holds Tryz.pinned (OpenSpec.ofChange fnExactDoDeedWrong)

/-- 'laws.FnExactDoDeeds': WHATEVER THE INPUT: true; the input reads as it did. -/
def fnExactDoDeedsSpec : ChangeSpec := { name := "fnExactDoDeeds", fn := fun _ => fun
  | [d1, d2] => { results := [.lit (.bool true)], args := [d1, d2] }
  | _ => none }
def fnExactDoDeedsRow : OpenClaim := { program := "ytmecniejpoopfaagreatdoor", sum := "409ac7312ecbd568925a4958c30520cf9f85d191eb86059d18f56b4da7e9c61f", func := "loop.example/g01243/laws.FnExactDoDeeds", spec := "fnExactDoDeeds", inPlace := ["internal/bytealg.CountString", "internal/bytealg.IndexByteString", "internal/bytealg.IndexString", "internal/abi.NoEscape", "internal/bytealg.MakeNoZero"], unfollowed := true, recurses := true, named := ["unicode/utf8.first", "unicode/utf8.acceptRanges", "internal/bytealg.MaxLen"], apart := false, laid := [("unicode/utf8.acceptRanges", laid_unicode_utf8_acceptRanges), ("unicode/utf8.first", laid_unicode_utf8_first)] }
def FnExactDoDeedsSaid : Prop := fnExactDoDeedsRow.holds Tryz.pinned (OpenSpec.ofChange fnExactDoDeedsSpec)

/-- ITS FALSE NEIGHBOUR: 'it returns false'. Refute it at one input. -/
def fnExactDoDeedsWrong : ChangeSpec := { name := "fnExactDoDeeds", fn := fun _ => fun
  | [d1, d2] => { results := [.lit (.bool false)], args := [d1, d2] }
  | _ => none }
def FnExactDoDeedsWrongFalsely : Prop := fnExactDoDeedsRow.holds Tryz.pinned (OpenSpec.ofChange fnExactDoDeedsWrong)

/- THE SECOND FORM. 'bulk': how many values and letters a reading holds, each counted each time it is reached (what is shared counts as often as it is met; a slice's spare places count too). A statement '..UptoSaid' is the law's where the arguments, and the package variables that the reading takes, are together of bulk at most 1048576: NARROWER than '..Said'. Prove '..Said' where nothing that the law and all that it calls make is longer than what came in: it says more and counts as full. Else prove '..UptoSaid'. A law counts once. -/
mutual
def uptoBulk {H : Type} : DataW H → Nat
  | .lit (.string bytes) => bytes.length + 1
  | .lit _ => 1
  | .nil => 1
  | .ptr d => uptoBulk d + 1
  | .slice elems spare => uptoBulkAll elems + uptoBulkAll spare + 1
  | .agg parts => uptoBulkAll parts + 1
  | .iface _ d => uptoBulk d + 1
  | .map entries => uptoBulkEntries entries + 1
  | .held _ => 1
def uptoBulkAll {H : Type} : List (DataW H) → Nat
  | [] => 0
  | d :: r => uptoBulk d + uptoBulkAll r
def uptoBulkEntries {H : Type} : List (Lit × DataW H) → Nat
  | [] => 0
  | x :: r => uptoBulkEntry x + uptoBulkEntries r
def uptoBulkEntry {H : Type} : Lit × DataW H → Nat
  | (.string bytes, d) => bytes.length + uptoBulk d + 1
  | (_, d) => uptoBulk d + 1
 end
def uptoSmall : (H : Type) → List (DataW H) → Bool := fun _ ds => decide (uptoBulkAll ds ≤ 1048576)
def OpenSpec.upto (s : _root_.Go.ChangeSpec) : _root_.Go.OpenSpec := { _root_.Go.OpenSpec.ofChange s with cond := some uptoSmall }

/-- 'laws.FnExactNewBook', WHERE WHAT IT READS IS OF BULK AT MOST 1048576: true; the input reads as it did. -/
def fnExactNewBookUptoRow : OpenClaim := { program := "ytmecniejpoopfaagreatdoor", sum := "409ac7312ecbd568925a4958c30520cf9f85d191eb86059d18f56b4da7e9c61f", func := "loop.example/g01243/laws.FnExactNewBook", spec := "fnExactNewBook", inPlace := ["internal/abi.NoEscape", "internal/bytealg.MakeNoZero", "internal/bytealg.IndexByteString", "internal/bytealg.IndexString", "internal/bytealg.CountString"], unfollowed := true, recurses := true, named := ["unicode/utf8.first", "unicode/utf8.acceptRanges", "internal/bytealg.MaxLen"], apart := false, laid := [("unicode/utf8.acceptRanges", laid_unicode_utf8_acceptRanges), ("unicode/utf8.first", laid_unicode_utf8_first)], narrowed := true }
def FnExactNewBookUptoSaid : Prop := fnExactNewBookUptoRow.holds Tryz.pinned (OpenSpec.upto fnExactNewBookSpec)

/-- 'laws.FnExactNewConsole', WHERE WHAT IT READS IS OF BULK AT MOST 1048576: true; the input reads as it did. -/
def fnExactNewConsoleUptoRow : OpenClaim := { program := "ytmecniejpoopfaagreatdoor", sum := "409ac7312ecbd568925a4958c30520cf9f85d191eb86059d18f56b4da7e9c61f", func := "loop.example/g01243/laws.FnExactNewConsole", spec := "fnExactNewConsole", inPlace := ["internal/bytealg.CountString", "internal/bytealg.IndexByteString", "internal/bytealg.IndexString"], unfollowed := true, recurses := true, named := ["unicode/utf8.first", "unicode/utf8.acceptRanges", "internal/bytealg.MaxLen"], apart := false, laid := [("unicode/utf8.acceptRanges", laid_unicode_utf8_acceptRanges), ("unicode/utf8.first", laid_unicode_utf8_first)], narrowed := true }
def FnExactNewConsoleUptoSaid : Prop := fnExactNewConsoleUptoRow.holds Tryz.pinned (OpenSpec.upto fnExactNewConsoleSpec)

/-- 'laws.FnExactTrieOfBook', WHERE WHAT IT READS IS OF BULK AT MOST 1048576: true; the input reads as it did. -/
def fnExactTrieOfBookUptoRow : OpenClaim := { program := "ytmecniejpoopfaagreatdoor", sum := "409ac7312ecbd568925a4958c30520cf9f85d191eb86059d18f56b4da7e9c61f", func := "loop.example/g01243/laws.FnExactTrieOfBook", spec := "fnExactTrieOfBook", inPlace := ["internal/bytealg.CountString", "internal/bytealg.IndexByteString", "internal/bytealg.IndexString"], unfollowed := true, recurses := true, named := ["unicode/utf8.first", "unicode/utf8.acceptRanges", "internal/bytealg.MaxLen"], apart := false, laid := [("unicode/utf8.acceptRanges", laid_unicode_utf8_acceptRanges), ("unicode/utf8.first", laid_unicode_utf8_first)], narrowed := true }
def FnExactTrieOfBookUptoSaid : Prop := fnExactTrieOfBookUptoRow.holds Tryz.pinned (OpenSpec.upto fnExactTrieOfBookSpec)

/-- 'laws.FnExactDoDeed', WHERE WHAT IT READS IS OF BULK AT MOST 1048576: true; the input reads as it did. -/
def fnExactDoDeedUptoRow : OpenClaim := { program := "ytmecniejpoopfaagreatdoor", sum := "409ac7312ecbd568925a4958c30520cf9f85d191eb86059d18f56b4da7e9c61f", func := "loop.example/g01243/laws.FnExactDoDeed", spec := "fnExactDoDeed", inPlace := ["internal/bytealg.CountString", "internal/bytealg.IndexByteString", "internal/bytealg.IndexString", "internal/abi.NoEscape", "internal/bytealg.MakeNoZero"], unfollowed := true, recurses := true, named := ["unicode/utf8.first", "unicode/utf8.acceptRanges", "internal/bytealg.MaxLen"], apart := false, laid := [("unicode/utf8.acceptRanges", laid_unicode_utf8_acceptRanges), ("unicode/utf8.first", laid_unicode_utf8_first)], narrowed := true }
def FnExactDoDeedUptoSaid : Prop := fnExactDoDeedUptoRow.holds Tryz.pinned (OpenSpec.upto fnExactDoDeedSpec)

/-- 'laws.FnExactDoDeeds', WHERE WHAT IT READS IS OF BULK AT MOST 1048576: true; the input reads as it did. -/
def fnExactDoDeedsUptoRow : OpenClaim := { program := "ytmecniejpoopfaagreatdoor", sum := "409ac7312ecbd568925a4958c30520cf9f85d191eb86059d18f56b4da7e9c61f", func := "loop.example/g01243/laws.FnExactDoDeeds", spec := "fnExactDoDeeds", inPlace := ["internal/bytealg.CountString", "internal/bytealg.IndexByteString", "internal/bytealg.IndexString", "internal/abi.NoEscape", "internal/bytealg.MakeNoZero"], unfollowed := true, recurses := true, named := ["unicode/utf8.first", "unicode/utf8.acceptRanges", "internal/bytealg.MaxLen"], apart := false, laid := [("unicode/utf8.acceptRanges", laid_unicode_utf8_acceptRanges), ("unicode/utf8.first", laid_unicode_utf8_first)], narrowed := true }
def FnExactDoDeedsUptoSaid : Prop := fnExactDoDeedsUptoRow.holds Tryz.pinned (OpenSpec.upto fnExactDoDeedsSpec)

end Rows
end Go.Proofs.YtmecniejpoopfaaGreatDoor
