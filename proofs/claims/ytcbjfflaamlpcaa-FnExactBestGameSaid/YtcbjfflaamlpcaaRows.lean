/-
  No cell of these rows narrows 'for every input' (looked for: loops, veiled, ifaces, maps, wideKeys, modest, calm, conditions, laid).
  DERIVED. THE GIVEN ROWS OF THIS SEAT. 10 by the template 'for every input the law returns true; each argument reads behind the call as it read before'; 0 by the template 'total and deterministic' (their statements: YtcbjfflaamlpcaaTotals.lean).
  GIVEN WITH THE SEED: the statements are not yours to turn. If you find one false, say at which input.
  Laid BY PROGRAM, IN A SANDBOX (cutbox-rows.mjs): the forced cells as the released guide's own fill.sh prints them over the translation d7e94bdf68766112… (all of the seat's roots in one cut). By AI agents, Wed Nov 11 2026. No macro, syntax, notation, axiom, sorry.
-/
import Derived.Test.YtcbjfflaamlpcaaChecked
import GoSem.Claim
import GoSem.ClaimJoined
import GoSem.ClaimMapViews
import Derived.JoinedTies
import Derived.KernelRfl
namespace Go.Proofs.Ytcbjfflaamlpcaa
/- THE CELL 'sum', in the pinned program and in every row, IS THE sha256 OF THE DUMP (.gsa) THAT YtcbjfflaamlpcaaProg.lean LOADS. Nothing in Lean hashes anything: it is a label: what it is worth is what the hold of that sum in a sandbox is worth. -/
noncomputable def Try.pinned : Pinned := { name := "ytcbjfflaamlpcaa", sum := "d7e94bdf687661126b3013547e0c7c456e06ef84e18ed455bd622232c324201c", checked := Try.checked }
namespace Rows
def none {H : Type} : Left H := { results := [], args := [] }

/-- 'laws.FnExactIsOpenNode': WHATEVER THE INPUT: true; the input reads as it did. -/
def fnExactIsOpenNodeSpec : ChangeSpec := { name := "fnExactIsOpenNode", fn := fun _ => fun
  | [d1, d2, d3] => { results := [.lit (.bool true)], args := [d1, d2, d3] }
  | _ => none }
def fnExactIsOpenNodeRow : OpenClaim := { program := "ytcbjfflaamlpcaa", sum := "d7e94bdf687661126b3013547e0c7c456e06ef84e18ed455bd622232c324201c", func := "loop.example/g01243/laws.FnExactIsOpenNode", spec := "fnExactIsOpenNode", unfollowed := true, recurses := true, apart := false }
def FnExactIsOpenNodeSaid : Prop := fnExactIsOpenNodeRow.holds Try.pinned (OpenSpec.ofChange fnExactIsOpenNodeSpec)

/-- ITS FALSE NEIGHBOUR: 'it returns false'. Refute it at one input. -/
def fnExactIsOpenNodeWrong : ChangeSpec := { name := "fnExactIsOpenNode", fn := fun _ => fun
  | [d1, d2, d3] => { results := [.lit (.bool false)], args := [d1, d2, d3] }
  | _ => none }
def FnExactIsOpenNodeWrongFalsely : Prop := fnExactIsOpenNodeRow.holds Try.pinned (OpenSpec.ofChange fnExactIsOpenNodeWrong)

/-- 'laws.FnExactFirstWinner': WHATEVER THE INPUT: true; the input reads as it did. -/
def fnExactFirstWinnerSpec : ChangeSpec := { name := "fnExactFirstWinner", fn := fun _ => fun
  | [d1, d2] => { results := [.lit (.bool true)], args := [d1, d2] }
  | _ => none }
def fnExactFirstWinnerRow : OpenClaim := { program := "ytcbjfflaamlpcaa", sum := "d7e94bdf687661126b3013547e0c7c456e06ef84e18ed455bd622232c324201c", func := "loop.example/g01243/laws.FnExactFirstWinner", spec := "fnExactFirstWinner", unfollowed := true, recurses := true, apart := false }
def FnExactFirstWinnerSaid : Prop := fnExactFirstWinnerRow.holds Try.pinned (OpenSpec.ofChange fnExactFirstWinnerSpec)

/-- ITS FALSE NEIGHBOUR: 'it returns false'. Refute it at one input. -/
def fnExactFirstWinnerWrong : ChangeSpec := { name := "fnExactFirstWinner", fn := fun _ => fun
  | [d1, d2] => { results := [.lit (.bool false)], args := [d1, d2] }
  | _ => none }
def FnExactFirstWinnerWrongFalsely : Prop := fnExactFirstWinnerRow.holds Try.pinned (OpenSpec.ofChange fnExactFirstWinnerWrong)

/-- 'laws.FnExactOtherWins': WHATEVER THE INPUT: true; the input reads as it did. -/
def fnExactOtherWinsSpec : ChangeSpec := { name := "fnExactOtherWins", fn := fun _ => fun
  | [d1, d2, d3] => { results := [.lit (.bool true)], args := [d1, d2, d3] }
  | _ => none }
def fnExactOtherWinsRow : OpenClaim := { program := "ytcbjfflaamlpcaa", sum := "d7e94bdf687661126b3013547e0c7c456e06ef84e18ed455bd622232c324201c", func := "loop.example/g01243/laws.FnExactOtherWins", spec := "fnExactOtherWins", unfollowed := true, recurses := true, apart := false }
def FnExactOtherWinsSaid : Prop := fnExactOtherWinsRow.holds Try.pinned (OpenSpec.ofChange fnExactOtherWinsSpec)

/-- ITS FALSE NEIGHBOUR: 'it returns false'. Refute it at one input. -/
def fnExactOtherWinsWrong : ChangeSpec := { name := "fnExactOtherWins", fn := fun _ => fun
  | [d1, d2, d3] => { results := [.lit (.bool false)], args := [d1, d2, d3] }
  | _ => none }
def FnExactOtherWinsWrongFalsely : Prop := fnExactOtherWinsRow.holds Try.pinned (OpenSpec.ofChange fnExactOtherWinsWrong)

/-- 'laws.FnExactGameWins': WHATEVER THE INPUT: true; the input reads as it did. -/
def fnExactGameWinsSpec : ChangeSpec := { name := "fnExactGameWins", fn := fun _ => fun
  | [d1, d2, d3] => { results := [.lit (.bool true)], args := [d1, d2, d3] }
  | _ => none }
def fnExactGameWinsRow : OpenClaim := { program := "ytcbjfflaamlpcaa", sum := "d7e94bdf687661126b3013547e0c7c456e06ef84e18ed455bd622232c324201c", func := "loop.example/g01243/laws.FnExactGameWins", spec := "fnExactGameWins", unfollowed := true, recurses := true, apart := false }
def FnExactGameWinsSaid : Prop := fnExactGameWinsRow.holds Try.pinned (OpenSpec.ofChange fnExactGameWinsSpec)

/-- ITS FALSE NEIGHBOUR: 'it returns false'. Refute it at one input. -/
def fnExactGameWinsWrong : ChangeSpec := { name := "fnExactGameWins", fn := fun _ => fun
  | [d1, d2, d3] => { results := [.lit (.bool false)], args := [d1, d2, d3] }
  | _ => none }
def FnExactGameWinsWrongFalsely : Prop := fnExactGameWinsRow.holds Try.pinned (OpenSpec.ofChange fnExactGameWinsWrong)

/-- 'laws.FnExactCountGames': WHATEVER THE INPUT: true; the input reads as it did. -/
def fnExactCountGamesSpec : ChangeSpec := { name := "fnExactCountGames", fn := fun _ => fun
  | [d1, d2, d3] => { results := [.lit (.bool true)], args := [d1, d2, d3] }
  | _ => none }
def fnExactCountGamesRow : OpenClaim := { program := "ytcbjfflaamlpcaa", sum := "d7e94bdf687661126b3013547e0c7c456e06ef84e18ed455bd622232c324201c", func := "loop.example/g01243/laws.FnExactCountGames", spec := "fnExactCountGames", unfollowed := true, recurses := true, apart := false }
def FnExactCountGamesSaid : Prop := fnExactCountGamesRow.holds Try.pinned (OpenSpec.ofChange fnExactCountGamesSpec)

/-- ITS FALSE NEIGHBOUR: 'it returns false'. Refute it at one input. -/
def fnExactCountGamesWrong : ChangeSpec := { name := "fnExactCountGames", fn := fun _ => fun
  | [d1, d2, d3] => { results := [.lit (.bool false)], args := [d1, d2, d3] }
  | _ => none }
def FnExactCountGamesWrongFalsely : Prop := fnExactCountGamesRow.holds Try.pinned (OpenSpec.ofChange fnExactCountGamesWrong)

/-- 'laws.FnExactWinningLetters': WHATEVER THE INPUT: true; the input reads as it did. -/
def fnExactWinningLettersSpec : ChangeSpec := { name := "fnExactWinningLetters", fn := fun _ => fun
  | [d1, d2, d3] => { results := [.lit (.bool true)], args := [d1, d2, d3] }
  | _ => none }
def fnExactWinningLettersRow : OpenClaim := { program := "ytcbjfflaamlpcaa", sum := "d7e94bdf687661126b3013547e0c7c456e06ef84e18ed455bd622232c324201c", func := "loop.example/g01243/laws.FnExactWinningLetters", spec := "fnExactWinningLetters", unfollowed := true, recurses := true, apart := false }
def FnExactWinningLettersSaid : Prop := fnExactWinningLettersRow.holds Try.pinned (OpenSpec.ofChange fnExactWinningLettersSpec)

/-- ITS FALSE NEIGHBOUR: 'it returns false'. Refute it at one input. -/
def fnExactWinningLettersWrong : ChangeSpec := { name := "fnExactWinningLetters", fn := fun _ => fun
  | [d1, d2, d3] => { results := [.lit (.bool false)], args := [d1, d2, d3] }
  | _ => none }
def FnExactWinningLettersWrongFalsely : Prop := fnExactWinningLettersRow.holds Try.pinned (OpenSpec.ofChange fnExactWinningLettersWrong)

/-- 'laws.FnExactFatalWords': WHATEVER THE INPUT: true; the input reads as it did. -/
def fnExactFatalWordsSpec : ChangeSpec := { name := "fnExactFatalWords", fn := fun _ => fun
  | [d1, d2] => { results := [.lit (.bool true)], args := [d1, d2] }
  | _ => none }
def fnExactFatalWordsRow : OpenClaim := { program := "ytcbjfflaamlpcaa", sum := "d7e94bdf687661126b3013547e0c7c456e06ef84e18ed455bd622232c324201c", func := "loop.example/g01243/laws.FnExactFatalWords", spec := "fnExactFatalWords", unfollowed := true, recurses := true, apart := false }
def FnExactFatalWordsSaid : Prop := fnExactFatalWordsRow.holds Try.pinned (OpenSpec.ofChange fnExactFatalWordsSpec)

/-- ITS FALSE NEIGHBOUR: 'it returns false'. Refute it at one input. -/
def fnExactFatalWordsWrong : ChangeSpec := { name := "fnExactFatalWords", fn := fun _ => fun
  | [d1, d2] => { results := [.lit (.bool false)], args := [d1, d2] }
  | _ => none }
def FnExactFatalWordsWrongFalsely : Prop := fnExactFatalWordsRow.holds Try.pinned (OpenSpec.ofChange fnExactFatalWordsWrong)

/-- 'laws.FnExactGameLength': WHATEVER THE INPUT: true; the input reads as it did. -/
def fnExactGameLengthSpec : ChangeSpec := { name := "fnExactGameLength", fn := fun _ => fun
  | [d1, d2, d3] => { results := [.lit (.bool true)], args := [d1, d2, d3] }
  | _ => none }
def fnExactGameLengthRow : OpenClaim := { program := "ytcbjfflaamlpcaa", sum := "d7e94bdf687661126b3013547e0c7c456e06ef84e18ed455bd622232c324201c", func := "loop.example/g01243/laws.FnExactGameLength", spec := "fnExactGameLength", unfollowed := true, recurses := true, apart := false }
def FnExactGameLengthSaid : Prop := fnExactGameLengthRow.holds Try.pinned (OpenSpec.ofChange fnExactGameLengthSpec)

/-- ITS FALSE NEIGHBOUR: 'it returns false'. Refute it at one input. -/
def fnExactGameLengthWrong : ChangeSpec := { name := "fnExactGameLength", fn := fun _ => fun
  | [d1, d2, d3] => { results := [.lit (.bool false)], args := [d1, d2, d3] }
  | _ => none }
def FnExactGameLengthWrongFalsely : Prop := fnExactGameLengthRow.holds Try.pinned (OpenSpec.ofChange fnExactGameLengthWrong)

/-- 'laws.FnExactKeyWords': WHATEVER THE INPUT: true; the input reads as it did. -/
def fnExactKeyWordsSpec : ChangeSpec := { name := "fnExactKeyWords", fn := fun _ => fun
  | [d1, d2] => { results := [.lit (.bool true)], args := [d1, d2] }
  | _ => none }
def fnExactKeyWordsRow : OpenClaim := { program := "ytcbjfflaamlpcaa", sum := "d7e94bdf687661126b3013547e0c7c456e06ef84e18ed455bd622232c324201c", func := "loop.example/g01243/laws.FnExactKeyWords", spec := "fnExactKeyWords", unfollowed := true, recurses := true, apart := false }
def FnExactKeyWordsSaid : Prop := fnExactKeyWordsRow.holds Try.pinned (OpenSpec.ofChange fnExactKeyWordsSpec)

/-- ITS FALSE NEIGHBOUR: 'it returns false'. Refute it at one input. -/
def fnExactKeyWordsWrong : ChangeSpec := { name := "fnExactKeyWords", fn := fun _ => fun
  | [d1, d2] => { results := [.lit (.bool false)], args := [d1, d2] }
  | _ => none }
def FnExactKeyWordsWrongFalsely : Prop := fnExactKeyWordsRow.holds Try.pinned (OpenSpec.ofChange fnExactKeyWordsWrong)

/-- 'laws.FnExactBestGame': WHATEVER THE INPUT: true; the input reads as it did. -/
def fnExactBestGameSpec : ChangeSpec := { name := "fnExactBestGame", fn := fun _ => fun
  | [d1, d2] => { results := [.lit (.bool true)], args := [d1, d2] }
  | _ => none }
def fnExactBestGameRow : OpenClaim := { program := "ytcbjfflaamlpcaa", sum := "d7e94bdf687661126b3013547e0c7c456e06ef84e18ed455bd622232c324201c", func := "loop.example/g01243/laws.FnExactBestGame", spec := "fnExactBestGame", inPlace := ["internal/abi.NoEscape", "internal/bytealg.MakeNoZero"], unfollowed := true, recurses := true, apart := false }
def FnExactBestGameSaid : Prop := fnExactBestGameRow.holds Try.pinned (OpenSpec.ofChange fnExactBestGameSpec)

/-- ITS FALSE NEIGHBOUR: 'it returns false'. Refute it at one input. -/
def fnExactBestGameWrong : ChangeSpec := { name := "fnExactBestGame", fn := fun _ => fun
  | [d1, d2] => { results := [.lit (.bool false)], args := [d1, d2] }
  | _ => none }
def FnExactBestGameWrongFalsely : Prop := fnExactBestGameRow.holds Try.pinned (OpenSpec.ofChange fnExactBestGameWrong)

/- THE SECOND FORM. 'bulk': how many values and letters a reading holds, each counted each time it is reached (what is shared counts as often as it is met; a slice's spare places count too). A statement '..UptoSaid' is the law's where the arguments, and the package variables that the reading takes, are together of bulk at most 1048576: NARROWER than '..Said'. Prove '..Said' where nothing that the law and all that it calls make is longer than what came in: it says more and counts as full. Else prove '..UptoSaid'. A law counts once. -/
mutual
def uptoBulk {H : Type} : DataW H → Nat
  | .lit (.string bytes) => bytes.length + 1
  | .lit _ => 1
  | .nil => 1
  | .ptr d => uptoBulk d + 1
  | .slice elems spare => uptoBulkAll elems + uptoBulkAll spare + 1
  | .agg parts => uptoBulkAll parts + 1
  | .iface _ d => uptoBulk d + 1
  | .map entries => uptoBulkEntries entries + 1
  | .held _ => 1
def uptoBulkAll {H : Type} : List (DataW H) → Nat
  | [] => 0
  | d :: r => uptoBulk d + uptoBulkAll r
def uptoBulkEntries {H : Type} : List (Lit × DataW H) → Nat
  | [] => 0
  | x :: r => uptoBulkEntry x + uptoBulkEntries r
def uptoBulkEntry {H : Type} : Lit × DataW H → Nat
  | (.string bytes, d) => bytes.length + uptoBulk d + 1
  | (_, d) => uptoBulk d + 1
 end
def uptoSmall : (H : Type) → List (DataW H) → Bool := fun _ ds => decide (uptoBulkAll ds ≤ 1048576)
def OpenSpec.upto (s : _root_.Go.ChangeSpec) : _root_.Go.OpenSpec := { _root_.Go.OpenSpec.ofChange s with cond := some uptoSmall }

/-- 'laws.FnExactIsOpenNode', WHERE WHAT IT READS IS OF BULK AT MOST 1048576: true; the input reads as it did. -/
def fnExactIsOpenNodeUptoRow : OpenClaim := { program := "ytcbjfflaamlpcaa", sum := "d7e94bdf687661126b3013547e0c7c456e06ef84e18ed455bd622232c324201c", func := "loop.example/g01243/laws.FnExactIsOpenNode", spec := "fnExactIsOpenNode", unfollowed := true, recurses := true, apart := false, narrowed := true }
def FnExactIsOpenNodeUptoSaid : Prop := fnExactIsOpenNodeUptoRow.holds Try.pinned (OpenSpec.upto fnExactIsOpenNodeSpec)

/-- 'laws.FnExactFirstWinner', WHERE WHAT IT READS IS OF BULK AT MOST 1048576: true; the input reads as it did. -/
def fnExactFirstWinnerUptoRow : OpenClaim := { program := "ytcbjfflaamlpcaa", sum := "d7e94bdf687661126b3013547e0c7c456e06ef84e18ed455bd622232c324201c", func := "loop.example/g01243/laws.FnExactFirstWinner", spec := "fnExactFirstWinner", unfollowed := true, recurses := true, apart := false, narrowed := true }
def FnExactFirstWinnerUptoSaid : Prop := fnExactFirstWinnerUptoRow.holds Try.pinned (OpenSpec.upto fnExactFirstWinnerSpec)

/-- 'laws.FnExactOtherWins', WHERE WHAT IT READS IS OF BULK AT MOST 1048576: true; the input reads as it did. -/
def fnExactOtherWinsUptoRow : OpenClaim := { program := "ytcbjfflaamlpcaa", sum := "d7e94bdf687661126b3013547e0c7c456e06ef84e18ed455bd622232c324201c", func := "loop.example/g01243/laws.FnExactOtherWins", spec := "fnExactOtherWins", unfollowed := true, recurses := true, apart := false, narrowed := true }
def FnExactOtherWinsUptoSaid : Prop := fnExactOtherWinsUptoRow.holds Try.pinned (OpenSpec.upto fnExactOtherWinsSpec)

/-- 'laws.FnExactGameWins', WHERE WHAT IT READS IS OF BULK AT MOST 1048576: true; the input reads as it did. -/
def fnExactGameWinsUptoRow : OpenClaim := { program := "ytcbjfflaamlpcaa", sum := "d7e94bdf687661126b3013547e0c7c456e06ef84e18ed455bd622232c324201c", func := "loop.example/g01243/laws.FnExactGameWins", spec := "fnExactGameWins", unfollowed := true, recurses := true, apart := false, narrowed := true }
def FnExactGameWinsUptoSaid : Prop := fnExactGameWinsUptoRow.holds Try.pinned (OpenSpec.upto fnExactGameWinsSpec)

/-- 'laws.FnExactCountGames', WHERE WHAT IT READS IS OF BULK AT MOST 1048576: true; the input reads as it did. -/
def fnExactCountGamesUptoRow : OpenClaim := { program := "ytcbjfflaamlpcaa", sum := "d7e94bdf687661126b3013547e0c7c456e06ef84e18ed455bd622232c324201c", func := "loop.example/g01243/laws.FnExactCountGames", spec := "fnExactCountGames", unfollowed := true, recurses := true, apart := false, narrowed := true }
def FnExactCountGamesUptoSaid : Prop := fnExactCountGamesUptoRow.holds Try.pinned (OpenSpec.upto fnExactCountGamesSpec)

/-- 'laws.FnExactWinningLetters', WHERE WHAT IT READS IS OF BULK AT MOST 1048576: true; the input reads as it did. -/
def fnExactWinningLettersUptoRow : OpenClaim := { program := "ytcbjfflaamlpcaa", sum := "d7e94bdf687661126b3013547e0c7c456e06ef84e18ed455bd622232c324201c", func := "loop.example/g01243/laws.FnExactWinningLetters", spec := "fnExactWinningLetters", unfollowed := true, recurses := true, apart := false, narrowed := true }
def FnExactWinningLettersUptoSaid : Prop := fnExactWinningLettersUptoRow.holds Try.pinned (OpenSpec.upto fnExactWinningLettersSpec)

/-- 'laws.FnExactFatalWords', WHERE WHAT IT READS IS OF BULK AT MOST 1048576: true; the input reads as it did. -/
def fnExactFatalWordsUptoRow : OpenClaim := { program := "ytcbjfflaamlpcaa", sum := "d7e94bdf687661126b3013547e0c7c456e06ef84e18ed455bd622232c324201c", func := "loop.example/g01243/laws.FnExactFatalWords", spec := "fnExactFatalWords", unfollowed := true, recurses := true, apart := false, narrowed := true }
def FnExactFatalWordsUptoSaid : Prop := fnExactFatalWordsUptoRow.holds Try.pinned (OpenSpec.upto fnExactFatalWordsSpec)

/-- 'laws.FnExactGameLength', WHERE WHAT IT READS IS OF BULK AT MOST 1048576: true; the input reads as it did. -/
def fnExactGameLengthUptoRow : OpenClaim := { program := "ytcbjfflaamlpcaa", sum := "d7e94bdf687661126b3013547e0c7c456e06ef84e18ed455bd622232c324201c", func := "loop.example/g01243/laws.FnExactGameLength", spec := "fnExactGameLength", unfollowed := true, recurses := true, apart := false, narrowed := true }
def FnExactGameLengthUptoSaid : Prop := fnExactGameLengthUptoRow.holds Try.pinned (OpenSpec.upto fnExactGameLengthSpec)

/-- 'laws.FnExactKeyWords', WHERE WHAT IT READS IS OF BULK AT MOST 1048576: true; the input reads as it did. -/
def fnExactKeyWordsUptoRow : OpenClaim := { program := "ytcbjfflaamlpcaa", sum := "d7e94bdf687661126b3013547e0c7c456e06ef84e18ed455bd622232c324201c", func := "loop.example/g01243/laws.FnExactKeyWords", spec := "fnExactKeyWords", unfollowed := true, recurses := true, apart := false, narrowed := true }
def FnExactKeyWordsUptoSaid : Prop := fnExactKeyWordsUptoRow.holds Try.pinned (OpenSpec.upto fnExactKeyWordsSpec)

/-- 'laws.FnExactBestGame', WHERE WHAT IT READS IS OF BULK AT MOST 1048576: true; the input reads as it did. -/
def fnExactBestGameUptoRow : OpenClaim := { program := "ytcbjfflaamlpcaa", sum := "d7e94bdf687661126b3013547e0c7c456e06ef84e18ed455bd622232c324201c", func := "loop.example/g01243/laws.FnExactBestGame", spec := "fnExactBestGame", inPlace := ["internal/abi.NoEscape", "internal/bytealg.MakeNoZero"], unfollowed := true, recurses := true, apart := false, narrowed := true }
def FnExactBestGameUptoSaid : Prop := fnExactBestGameUptoRow.holds Try.pinned (OpenSpec.upto fnExactBestGameSpec)

end Rows
end Go.Proofs.Ytcbjfflaamlpcaa
