/-
  No cell of these rows narrows 'for every input' (looked for: loops, veiled, ifaces, maps, wideKeys, modest, calm, conditions, laid).
  DERIVED. THE GIVEN ROWS OF THIS SEAT. 20 by the template 'for every input the law returns true; each argument reads behind the call as it read before'; 0 by the template 'total and deterministic' (their statements: YtadilccdipcmnaaTotals.lean).
  GIVEN WITH THE SEED: the statements are not yours to turn. If you find one false, say at which input.
  Laid BY PROGRAM, IN A SANDBOX (cutbox-rows.mjs): the forced cells as the released guide's own fill.sh prints them over the translation 8316319484d19a58… (all of the seat's roots in one cut). By AI agents, Wed Nov 11 2026. No macro, syntax, notation, axiom, sorry.
-/
import Derived.Test.YtadilccdipcmnaaChecked
import GoSem.Claim
import GoSem.ClaimJoined
import GoSem.ClaimMapViews
import Derived.JoinedTies
import Derived.KernelRfl
namespace Go.Proofs.Ytadilccdipcmnaa
/- THE CELL 'sum', in the pinned program and in every row, IS THE sha256 OF THE DUMP (.gsa) THAT YtadilccdipcmnaaProg.lean LOADS. Nothing in Lean hashes anything: it is a label: what it is worth is what the hold of that sum in a sandbox is worth. -/
noncomputable def Try.pinned : Pinned := { name := "ytadilccdipcmnaa", sum := "8316319484d19a5856f62f7071ff192280c3315741f35a692689b4b484dc934a", checked := Try.checked }
namespace Rows
def none {H : Type} : Left H := { results := [], args := [] }

/-- 'damperlaw01.WideMuls': WHATEVER THE INPUT: true; the input reads as it did. -/
def wideMulsSpec : ChangeSpec := { name := "wideMuls", fn := fun _ => fun
  | [d1, d2] => { results := [.lit (.bool true)], args := [d1, d2] }
  | _ => none }
def wideMulsRow : OpenClaim := { program := "ytadilccdipcmnaa", sum := "8316319484d19a5856f62f7071ff192280c3315741f35a692689b4b484dc934a", func := "damper/damperlaw01.WideMuls", spec := "wideMuls", inPlace := ["internal/abi.NoEscape"], unfollowed := true, recurses := true, apart := false }
def WideMulsSaid : Prop := wideMulsRow.holds Try.pinned (OpenSpec.ofChange wideMulsSpec)

/-- ITS FALSE NEIGHBOUR: 'it returns false'. Refute it at one input. -/
def wideMulsWrong : ChangeSpec := { name := "wideMuls", fn := fun _ => fun
  | [d1, d2] => { results := [.lit (.bool false)], args := [d1, d2] }
  | _ => none }
def WideMulsWrongFalsely : Prop := wideMulsRow.holds Try.pinned (OpenSpec.ofChange wideMulsWrong)

/-- 'damperlaw01.WideMoves': WHATEVER THE INPUT: true; the input reads as it did. -/
def wideMovesSpec : ChangeSpec := { name := "wideMoves", fn := fun _ => fun
  | [d1, d2, d3] => { results := [.lit (.bool true)], args := [d1, d2, d3] }
  | _ => none }
def wideMovesRow : OpenClaim := { program := "ytadilccdipcmnaa", sum := "8316319484d19a5856f62f7071ff192280c3315741f35a692689b4b484dc934a", func := "damper/damperlaw01.WideMoves", spec := "wideMoves", inPlace := ["internal/abi.NoEscape"], unfollowed := true, recurses := true, apart := false }
def WideMovesSaid : Prop := wideMovesRow.holds Try.pinned (OpenSpec.ofChange wideMovesSpec)

/-- ITS FALSE NEIGHBOUR: 'it returns false'. Refute it at one input. -/
def wideMovesWrong : ChangeSpec := { name := "wideMoves", fn := fun _ => fun
  | [d1, d2, d3] => { results := [.lit (.bool false)], args := [d1, d2, d3] }
  | _ => none }
def WideMovesWrongFalsely : Prop := wideMovesRow.holds Try.pinned (OpenSpec.ofChange wideMovesWrong)

/-- 'damperlaw01.WideDivs': WHATEVER THE INPUT: true; the input reads as it did. -/
def wideDivsSpec : ChangeSpec := { name := "wideDivs", fn := fun _ => fun
  | [d1, d2, d3] => { results := [.lit (.bool true)], args := [d1, d2, d3] }
  | _ => none }
def wideDivsRow : OpenClaim := { program := "ytadilccdipcmnaa", sum := "8316319484d19a5856f62f7071ff192280c3315741f35a692689b4b484dc934a", func := "damper/damperlaw01.WideDivs", spec := "wideDivs", inPlace := ["internal/abi.NoEscape"], unfollowed := true, recurses := true, apart := false }
def WideDivsSaid : Prop := wideDivsRow.holds Try.pinned (OpenSpec.ofChange wideDivsSpec)

/-- ITS FALSE NEIGHBOUR: 'it returns false'. Refute it at one input. -/
def wideDivsWrong : ChangeSpec := { name := "wideDivs", fn := fun _ => fun
  | [d1, d2, d3] => { results := [.lit (.bool false)], args := [d1, d2, d3] }
  | _ => none }
def WideDivsWrongFalsely : Prop := wideDivsRow.holds Try.pinned (OpenSpec.ofChange wideDivsWrong)

/-- 'damperlaw01.WideTexts': WHATEVER THE INPUT: true; the input reads as it did. -/
def wideTextsSpec : ChangeSpec := { name := "wideTexts", fn := fun _ => fun
  | [d1, d2] => { results := [.lit (.bool true)], args := [d1, d2] }
  | _ => none }
def wideTextsRow : OpenClaim := { program := "ytadilccdipcmnaa", sum := "8316319484d19a5856f62f7071ff192280c3315741f35a692689b4b484dc934a", func := "damper/damperlaw01.WideTexts", spec := "wideTexts", inPlace := ["internal/abi.NoEscape"], unfollowed := true, recurses := true, apart := false }
def WideTextsSaid : Prop := wideTextsRow.holds Try.pinned (OpenSpec.ofChange wideTextsSpec)

/-- ITS FALSE NEIGHBOUR: 'it returns false'. Refute it at one input. -/
def wideTextsWrong : ChangeSpec := { name := "wideTexts", fn := fun _ => fun
  | [d1, d2] => { results := [.lit (.bool false)], args := [d1, d2] }
  | _ => none }
def WideTextsWrongFalsely : Prop := wideTextsRow.holds Try.pinned (OpenSpec.ofChange wideTextsWrong)

/-- 'damperlaw01.WideBack': WHATEVER THE INPUT: true; the input reads as it did. -/
def wideBackSpec : ChangeSpec := { name := "wideBack", fn := fun _ => fun
  | [d1, d2, d3] => { results := [.lit (.bool true)], args := [d1, d2, d3] }
  | _ => none }
def wideBackRow : OpenClaim := { program := "ytadilccdipcmnaa", sum := "8316319484d19a5856f62f7071ff192280c3315741f35a692689b4b484dc934a", func := "damper/damperlaw01.WideBack", spec := "wideBack", inPlace := ["internal/abi.NoEscape"], unfollowed := true, recurses := true, apart := false }
def WideBackSaid : Prop := wideBackRow.holds Try.pinned (OpenSpec.ofChange wideBackSpec)

/-- ITS FALSE NEIGHBOUR: 'it returns false'. Refute it at one input. -/
def wideBackWrong : ChangeSpec := { name := "wideBack", fn := fun _ => fun
  | [d1, d2, d3] => { results := [.lit (.bool false)], args := [d1, d2, d3] }
  | _ => none }
def WideBackWrongFalsely : Prop := wideBackRow.holds Try.pinned (OpenSpec.ofChange wideBackWrong)

/-- 'damperlaw20.BandHolds': WHATEVER THE INPUT: true; the input reads as it did. -/
def bandHoldsSpec : ChangeSpec := { name := "bandHolds", fn := fun _ => fun
  | [d1, d2, d3] => { results := [.lit (.bool true)], args := [d1, d2, d3] }
  | _ => none }
def bandHoldsRow : OpenClaim := { program := "ytadilccdipcmnaa", sum := "8316319484d19a5856f62f7071ff192280c3315741f35a692689b4b484dc934a", func := "damper/damperlaw20.BandHolds", spec := "bandHolds", unfollowed := true, recurses := true, apart := false }
def BandHoldsSaid : Prop := bandHoldsRow.holds Try.pinned (OpenSpec.ofChange bandHoldsSpec)

/-- ITS FALSE NEIGHBOUR: 'it returns false'. Refute it at one input. -/
def bandHoldsWrong : ChangeSpec := { name := "bandHolds", fn := fun _ => fun
  | [d1, d2, d3] => { results := [.lit (.bool false)], args := [d1, d2, d3] }
  | _ => none }
def BandHoldsWrongFalsely : Prop := bandHoldsRow.holds Try.pinned (OpenSpec.ofChange bandHoldsWrong)

/-- 'damperlaw02.FixDivs': WHATEVER THE INPUT: true; the input reads as it did. -/
def fixDivsSpec : ChangeSpec := { name := "fixDivs", fn := fun _ => fun
  | [d1, d2, d3, d4] => { results := [.lit (.bool true)], args := [d1, d2, d3, d4] }
  | _ => none }
def fixDivsRow : OpenClaim := { program := "ytadilccdipcmnaa", sum := "8316319484d19a5856f62f7071ff192280c3315741f35a692689b4b484dc934a", func := "damper/damperlaw02.FixDivs", spec := "fixDivs", apart := false }
def FixDivsSaid : Prop := fixDivsRow.holds Try.pinned (OpenSpec.ofChange fixDivsSpec)

/-- ITS FALSE NEIGHBOUR: 'it returns false'. Refute it at one input. -/
def fixDivsWrong : ChangeSpec := { name := "fixDivs", fn := fun _ => fun
  | [d1, d2, d3, d4] => { results := [.lit (.bool false)], args := [d1, d2, d3, d4] }
  | _ => none }
def FixDivsWrongFalsely : Prop := fixDivsRow.holds Try.pinned (OpenSpec.ofChange fixDivsWrong)

/-- 'damperlaw20.BandWidens': WHATEVER THE INPUT: true; the input reads as it did. -/
def bandWidensSpec : ChangeSpec := { name := "bandWidens", fn := fun _ => fun
  | [d1, d2, d3, d4, d5] => { results := [.lit (.bool true)], args := [d1, d2, d3, d4, d5] }
  | _ => none }
def bandWidensRow : OpenClaim := { program := "ytadilccdipcmnaa", sum := "8316319484d19a5856f62f7071ff192280c3315741f35a692689b4b484dc934a", func := "damper/damperlaw20.BandWidens", spec := "bandWidens", unfollowed := true, recurses := true, apart := false }
def BandWidensSaid : Prop := bandWidensRow.holds Try.pinned (OpenSpec.ofChange bandWidensSpec)

/-- ITS FALSE NEIGHBOUR: 'it returns false'. Refute it at one input. -/
def bandWidensWrong : ChangeSpec := { name := "bandWidens", fn := fun _ => fun
  | [d1, d2, d3, d4, d5] => { results := [.lit (.bool false)], args := [d1, d2, d3, d4, d5] }
  | _ => none }
def BandWidensWrongFalsely : Prop := bandWidensRow.holds Try.pinned (OpenSpec.ofChange bandWidensWrong)

/-- 'damperlaw02.FixGrids': WHATEVER THE INPUT: true; the input reads as it did. -/
def fixGridsSpec : ChangeSpec := { name := "fixGrids", fn := fun _ => fun
  | [d1, d2] => { results := [.lit (.bool true)], args := [d1, d2] }
  | _ => none }
def fixGridsRow : OpenClaim := { program := "ytadilccdipcmnaa", sum := "8316319484d19a5856f62f7071ff192280c3315741f35a692689b4b484dc934a", func := "damper/damperlaw02.FixGrids", spec := "fixGrids", apart := false }
def FixGridsSaid : Prop := fixGridsRow.holds Try.pinned (OpenSpec.ofChange fixGridsSpec)

/-- ITS FALSE NEIGHBOUR: 'it returns false'. Refute it at one input. -/
def fixGridsWrong : ChangeSpec := { name := "fixGrids", fn := fun _ => fun
  | [d1, d2] => { results := [.lit (.bool false)], args := [d1, d2] }
  | _ => none }
def FixGridsWrongFalsely : Prop := fixGridsRow.holds Try.pinned (OpenSpec.ofChange fixGridsWrong)

/-- 'damperlaw02.FixBands': WHATEVER THE INPUT: true; the input reads as it did. -/
def fixBandsSpec : ChangeSpec := { name := "fixBands", fn := fun _ => fun
  | [d1, d2, d3] => { results := [.lit (.bool true)], args := [d1, d2, d3] }
  | _ => none }
def fixBandsRow : OpenClaim := { program := "ytadilccdipcmnaa", sum := "8316319484d19a5856f62f7071ff192280c3315741f35a692689b4b484dc934a", func := "damper/damperlaw02.FixBands", spec := "fixBands", apart := false }
def FixBandsSaid : Prop := fixBandsRow.holds Try.pinned (OpenSpec.ofChange fixBandsSpec)

/-- ITS FALSE NEIGHBOUR: 'it returns false'. Refute it at one input. -/
def fixBandsWrong : ChangeSpec := { name := "fixBands", fn := fun _ => fun
  | [d1, d2, d3] => { results := [.lit (.bool false)], args := [d1, d2, d3] }
  | _ => none }
def FixBandsWrongFalsely : Prop := fixBandsRow.holds Try.pinned (OpenSpec.ofChange fixBandsWrong)

/-- 'damperlaw01.WideSums': WHATEVER THE INPUT: true; the input reads as it did. -/
def wideSumsSpec : ChangeSpec := { name := "wideSums", fn := fun _ => fun
  | [d1, d2, d3, d4] => { results := [.lit (.bool true)], args := [d1, d2, d3, d4] }
  | _ => none }
def wideSumsRow : OpenClaim := { program := "ytadilccdipcmnaa", sum := "8316319484d19a5856f62f7071ff192280c3315741f35a692689b4b484dc934a", func := "damper/damperlaw01.WideSums", spec := "wideSums", inPlace := ["internal/abi.NoEscape"], unfollowed := true, recurses := true, apart := false }
def WideSumsSaid : Prop := wideSumsRow.holds Try.pinned (OpenSpec.ofChange wideSumsSpec)

/-- ITS FALSE NEIGHBOUR: 'it returns false'. Refute it at one input. -/
def wideSumsWrong : ChangeSpec := { name := "wideSums", fn := fun _ => fun
  | [d1, d2, d3, d4] => { results := [.lit (.bool false)], args := [d1, d2, d3, d4] }
  | _ => none }
def WideSumsWrongFalsely : Prop := wideSumsRow.holds Try.pinned (OpenSpec.ofChange wideSumsWrong)

/-- 'damperlaw02.FixAround': WHATEVER THE INPUT: true; the input reads as it did. -/
def fixAroundSpec : ChangeSpec := { name := "fixAround", fn := fun _ => fun
  | [d1, d2, d3, d4] => { results := [.lit (.bool true)], args := [d1, d2, d3, d4] }
  | _ => none }
def fixAroundRow : OpenClaim := { program := "ytadilccdipcmnaa", sum := "8316319484d19a5856f62f7071ff192280c3315741f35a692689b4b484dc934a", func := "damper/damperlaw02.FixAround", spec := "fixAround", apart := false }
def FixAroundSaid : Prop := fixAroundRow.holds Try.pinned (OpenSpec.ofChange fixAroundSpec)

/-- ITS FALSE NEIGHBOUR: 'it returns false'. Refute it at one input. -/
def fixAroundWrong : ChangeSpec := { name := "fixAround", fn := fun _ => fun
  | [d1, d2, d3, d4] => { results := [.lit (.bool false)], args := [d1, d2, d3, d4] }
  | _ => none }
def FixAroundWrongFalsely : Prop := fixAroundRow.holds Try.pinned (OpenSpec.ofChange fixAroundWrong)

/-- 'damperlaw02.FixSums': WHATEVER THE INPUT: true; the input reads as it did. -/
def fixSumsSpec : ChangeSpec := { name := "fixSums", fn := fun _ => fun
  | [d1, d2] => { results := [.lit (.bool true)], args := [d1, d2] }
  | _ => none }
def fixSumsRow : OpenClaim := { program := "ytadilccdipcmnaa", sum := "8316319484d19a5856f62f7071ff192280c3315741f35a692689b4b484dc934a", func := "damper/damperlaw02.FixSums", spec := "fixSums", apart := false }
def FixSumsSaid : Prop := fixSumsRow.holds Try.pinned (OpenSpec.ofChange fixSumsSpec)

/-- ITS FALSE NEIGHBOUR: 'it returns false'. Refute it at one input. -/
def fixSumsWrong : ChangeSpec := { name := "fixSums", fn := fun _ => fun
  | [d1, d2] => { results := [.lit (.bool false)], args := [d1, d2] }
  | _ => none }
def FixSumsWrongFalsely : Prop := fixSumsRow.holds Try.pinned (OpenSpec.ofChange fixSumsWrong)

/-- 'damperlaw02.FixChecks': WHATEVER THE INPUT: true; the input reads as it did. -/
def fixChecksSpec : ChangeSpec := { name := "fixChecks", fn := fun _ => fun
  | [d1, d2, d3] => { results := [.lit (.bool true)], args := [d1, d2, d3] }
  | _ => none }
def fixChecksRow : OpenClaim := { program := "ytadilccdipcmnaa", sum := "8316319484d19a5856f62f7071ff192280c3315741f35a692689b4b484dc934a", func := "damper/damperlaw02.FixChecks", spec := "fixChecks", unfollowed := true, recurses := true, apart := false }
def FixChecksSaid : Prop := fixChecksRow.holds Try.pinned (OpenSpec.ofChange fixChecksSpec)

/-- ITS FALSE NEIGHBOUR: 'it returns false'. Refute it at one input. -/
def fixChecksWrong : ChangeSpec := { name := "fixChecks", fn := fun _ => fun
  | [d1, d2, d3] => { results := [.lit (.bool false)], args := [d1, d2, d3] }
  | _ => none }
def FixChecksWrongFalsely : Prop := fixChecksRow.holds Try.pinned (OpenSpec.ofChange fixChecksWrong)

/-- 'damperlaw20.BandOfs': WHATEVER THE INPUT: true; the input reads as it did. -/
def bandOfsSpec : ChangeSpec := { name := "bandOfs", fn := fun _ => fun
  | [d1, d2, d3, d4] => { results := [.lit (.bool true)], args := [d1, d2, d3, d4] }
  | _ => none }
def bandOfsRow : OpenClaim := { program := "ytadilccdipcmnaa", sum := "8316319484d19a5856f62f7071ff192280c3315741f35a692689b4b484dc934a", func := "damper/damperlaw20.BandOfs", spec := "bandOfs", apart := false }
def BandOfsSaid : Prop := bandOfsRow.holds Try.pinned (OpenSpec.ofChange bandOfsSpec)

/-- ITS FALSE NEIGHBOUR: 'it returns false'. Refute it at one input. -/
def bandOfsWrong : ChangeSpec := { name := "bandOfs", fn := fun _ => fun
  | [d1, d2, d3, d4] => { results := [.lit (.bool false)], args := [d1, d2, d3, d4] }
  | _ => none }
def BandOfsWrongFalsely : Prop := bandOfsRow.holds Try.pinned (OpenSpec.ofChange bandOfsWrong)

/-- 'damperlaw20.BandLooks': WHATEVER THE INPUT: true; the input reads as it did. -/
def bandLooksSpec : ChangeSpec := { name := "bandLooks", fn := fun _ => fun
  | [d1, d2, d3, d4, d5] => { results := [.lit (.bool true)], args := [d1, d2, d3, d4, d5] }
  | _ => none }
def bandLooksRow : OpenClaim := { program := "ytadilccdipcmnaa", sum := "8316319484d19a5856f62f7071ff192280c3315741f35a692689b4b484dc934a", func := "damper/damperlaw20.BandLooks", spec := "bandLooks", apart := false }
def BandLooksSaid : Prop := bandLooksRow.holds Try.pinned (OpenSpec.ofChange bandLooksSpec)

/-- ITS FALSE NEIGHBOUR: 'it returns false'. Refute it at one input. -/
def bandLooksWrong : ChangeSpec := { name := "bandLooks", fn := fun _ => fun
  | [d1, d2, d3, d4, d5] => { results := [.lit (.bool false)], args := [d1, d2, d3, d4, d5] }
  | _ => none }
def BandLooksWrongFalsely : Prop := bandLooksRow.holds Try.pinned (OpenSpec.ofChange bandLooksWrong)

/-- 'damperlaw19.WindowBetween': WHATEVER THE INPUT: true; the input reads as it did. -/
def windowBetweenSpec : ChangeSpec := { name := "windowBetween", fn := fun _ => fun
  | [d1, d2, d3, d4, d5] => { results := [.lit (.bool true)], args := [d1, d2, d3, d4, d5] }
  | _ => none }
def windowBetweenRow : OpenClaim := { program := "ytadilccdipcmnaa", sum := "8316319484d19a5856f62f7071ff192280c3315741f35a692689b4b484dc934a", func := "damper/damperlaw19.WindowBetween", spec := "windowBetween", unfollowed := true, recurses := true, apart := false }
def WindowBetweenSaid : Prop := windowBetweenRow.holds Try.pinned (OpenSpec.ofChange windowBetweenSpec)

/-- ITS FALSE NEIGHBOUR: 'it returns false'. Refute it at one input. -/
def windowBetweenWrong : ChangeSpec := { name := "windowBetween", fn := fun _ => fun
  | [d1, d2, d3, d4, d5] => { results := [.lit (.bool false)], args := [d1, d2, d3, d4, d5] }
  | _ => none }
def WindowBetweenWrongFalsely : Prop := windowBetweenRow.holds Try.pinned (OpenSpec.ofChange windowBetweenWrong)

/-- 'damperlaw19.WindowMoves': WHATEVER THE INPUT: true; the input reads as it did. -/
def windowMovesSpec : ChangeSpec := { name := "windowMoves", fn := fun _ => fun
  | [d1, d2, d3] => { results := [.lit (.bool true)], args := [d1, d2, d3] }
  | _ => none }
def windowMovesRow : OpenClaim := { program := "ytadilccdipcmnaa", sum := "8316319484d19a5856f62f7071ff192280c3315741f35a692689b4b484dc934a", func := "damper/damperlaw19.WindowMoves", spec := "windowMoves", unfollowed := true, recurses := true, apart := false }
def WindowMovesSaid : Prop := windowMovesRow.holds Try.pinned (OpenSpec.ofChange windowMovesSpec)

/-- ITS FALSE NEIGHBOUR: 'it returns false'. Refute it at one input. -/
def windowMovesWrong : ChangeSpec := { name := "windowMoves", fn := fun _ => fun
  | [d1, d2, d3] => { results := [.lit (.bool false)], args := [d1, d2, d3] }
  | _ => none }
def WindowMovesWrongFalsely : Prop := windowMovesRow.holds Try.pinned (OpenSpec.ofChange windowMovesWrong)

/-- 'damperlaw19.WindowPlays': WHATEVER THE INPUT: true; the input reads as it did. -/
def windowPlaysSpec : ChangeSpec := { name := "windowPlays", fn := fun _ => fun
  | [d1, d2, d3, d4] => { results := [.lit (.bool true)], args := [d1, d2, d3, d4] }
  | _ => none }
def windowPlaysRow : OpenClaim := { program := "ytadilccdipcmnaa", sum := "8316319484d19a5856f62f7071ff192280c3315741f35a692689b4b484dc934a", func := "damper/damperlaw19.WindowPlays", spec := "windowPlays", unfollowed := true, recurses := true, apart := false }
def WindowPlaysSaid : Prop := windowPlaysRow.holds Try.pinned (OpenSpec.ofChange windowPlaysSpec)

/-- ITS FALSE NEIGHBOUR: 'it returns false'. Refute it at one input. -/
def windowPlaysWrong : ChangeSpec := { name := "windowPlays", fn := fun _ => fun
  | [d1, d2, d3, d4] => { results := [.lit (.bool false)], args := [d1, d2, d3, d4] }
  | _ => none }
def WindowPlaysWrongFalsely : Prop := windowPlaysRow.holds Try.pinned (OpenSpec.ofChange windowPlaysWrong)

/-- 'damperlaw19.WindowNils': WHATEVER THE INPUT: true; the input reads as it did. -/
def windowNilsSpec : ChangeSpec := { name := "windowNils", fn := fun _ => fun
  | [d1, d2, d3] => { results := [.lit (.bool true)], args := [d1, d2, d3] }
  | _ => none }
def windowNilsRow : OpenClaim := { program := "ytadilccdipcmnaa", sum := "8316319484d19a5856f62f7071ff192280c3315741f35a692689b4b484dc934a", func := "damper/damperlaw19.WindowNils", spec := "windowNils", unfollowed := true, recurses := true, apart := false }
def WindowNilsSaid : Prop := windowNilsRow.holds Try.pinned (OpenSpec.ofChange windowNilsSpec)

/-- ITS FALSE NEIGHBOUR: 'it returns false'. Refute it at one input. -/
def windowNilsWrong : ChangeSpec := { name := "windowNils", fn := fun _ => fun
  | [d1, d2, d3] => { results := [.lit (.bool false)], args := [d1, d2, d3] }
  | _ => none }
def WindowNilsWrongFalsely : Prop := windowNilsRow.holds Try.pinned (OpenSpec.ofChange windowNilsWrong)

/- THE SECOND FORM. 'bulk': how many values and letters a reading holds, each counted each time it is reached (what is shared counts as often as it is met; a slice's spare places count too). A statement '..UptoSaid' is the law's where the arguments, and the package variables that the reading takes, are together of bulk at most 1048576: NARROWER than '..Said'. Prove '..Said' where nothing that the law and all that it calls make is longer than what came in: it says more and counts as full. Else prove '..UptoSaid'. A law counts once. -/
mutual
def uptoBulk {H : Type} : DataW H → Nat
  | .lit (.string bytes) => bytes.length + 1
  | .lit _ => 1
  | .nil => 1
  | .ptr d => uptoBulk d + 1
  | .slice elems spare => uptoBulkAll elems + uptoBulkAll spare + 1
  | .agg parts => uptoBulkAll parts + 1
  | .iface _ d => uptoBulk d + 1
  | .map entries => uptoBulkEntries entries + 1
  | .held _ => 1
def uptoBulkAll {H : Type} : List (DataW H) → Nat
  | [] => 0
  | d :: r => uptoBulk d + uptoBulkAll r
def uptoBulkEntries {H : Type} : List (Lit × DataW H) → Nat
  | [] => 0
  | x :: r => uptoBulkEntry x + uptoBulkEntries r
def uptoBulkEntry {H : Type} : Lit × DataW H → Nat
  | (.string bytes, d) => bytes.length + uptoBulk d + 1
  | (_, d) => uptoBulk d + 1
 end
def uptoSmall : (H : Type) → List (DataW H) → Bool := fun _ ds => decide (uptoBulkAll ds ≤ 1048576)
def OpenSpec.upto (s : _root_.Go.ChangeSpec) : _root_.Go.OpenSpec := { _root_.Go.OpenSpec.ofChange s with cond := some uptoSmall }

/-- 'damperlaw01.WideMuls', WHERE WHAT IT READS IS OF BULK AT MOST 1048576: true; the input reads as it did. -/
def wideMulsUptoRow : OpenClaim := { program := "ytadilccdipcmnaa", sum := "8316319484d19a5856f62f7071ff192280c3315741f35a692689b4b484dc934a", func := "damper/damperlaw01.WideMuls", spec := "wideMuls", inPlace := ["internal/abi.NoEscape"], unfollowed := true, recurses := true, apart := false, narrowed := true }
def WideMulsUptoSaid : Prop := wideMulsUptoRow.holds Try.pinned (OpenSpec.upto wideMulsSpec)

/-- 'damperlaw01.WideMoves', WHERE WHAT IT READS IS OF BULK AT MOST 1048576: true; the input reads as it did. -/
def wideMovesUptoRow : OpenClaim := { program := "ytadilccdipcmnaa", sum := "8316319484d19a5856f62f7071ff192280c3315741f35a692689b4b484dc934a", func := "damper/damperlaw01.WideMoves", spec := "wideMoves", inPlace := ["internal/abi.NoEscape"], unfollowed := true, recurses := true, apart := false, narrowed := true }
def WideMovesUptoSaid : Prop := wideMovesUptoRow.holds Try.pinned (OpenSpec.upto wideMovesSpec)

/-- 'damperlaw01.WideDivs', WHERE WHAT IT READS IS OF BULK AT MOST 1048576: true; the input reads as it did. -/
def wideDivsUptoRow : OpenClaim := { program := "ytadilccdipcmnaa", sum := "8316319484d19a5856f62f7071ff192280c3315741f35a692689b4b484dc934a", func := "damper/damperlaw01.WideDivs", spec := "wideDivs", inPlace := ["internal/abi.NoEscape"], unfollowed := true, recurses := true, apart := false, narrowed := true }
def WideDivsUptoSaid : Prop := wideDivsUptoRow.holds Try.pinned (OpenSpec.upto wideDivsSpec)

/-- 'damperlaw01.WideTexts', WHERE WHAT IT READS IS OF BULK AT MOST 1048576: true; the input reads as it did. -/
def wideTextsUptoRow : OpenClaim := { program := "ytadilccdipcmnaa", sum := "8316319484d19a5856f62f7071ff192280c3315741f35a692689b4b484dc934a", func := "damper/damperlaw01.WideTexts", spec := "wideTexts", inPlace := ["internal/abi.NoEscape"], unfollowed := true, recurses := true, apart := false, narrowed := true }
def WideTextsUptoSaid : Prop := wideTextsUptoRow.holds Try.pinned (OpenSpec.upto wideTextsSpec)

/-- 'damperlaw01.WideBack', WHERE WHAT IT READS IS OF BULK AT MOST 1048576: true; the input reads as it did. -/
def wideBackUptoRow : OpenClaim := { program := "ytadilccdipcmnaa", sum := "8316319484d19a5856f62f7071ff192280c3315741f35a692689b4b484dc934a", func := "damper/damperlaw01.WideBack", spec := "wideBack", inPlace := ["internal/abi.NoEscape"], unfollowed := true, recurses := true, apart := false, narrowed := true }
def WideBackUptoSaid : Prop := wideBackUptoRow.holds Try.pinned (OpenSpec.upto wideBackSpec)

/-- 'damperlaw20.BandHolds', WHERE WHAT IT READS IS OF BULK AT MOST 1048576: true; the input reads as it did. -/
def bandHoldsUptoRow : OpenClaim := { program := "ytadilccdipcmnaa", sum := "8316319484d19a5856f62f7071ff192280c3315741f35a692689b4b484dc934a", func := "damper/damperlaw20.BandHolds", spec := "bandHolds", unfollowed := true, recurses := true, apart := false, narrowed := true }
def BandHoldsUptoSaid : Prop := bandHoldsUptoRow.holds Try.pinned (OpenSpec.upto bandHoldsSpec)

/-- 'damperlaw02.FixDivs', WHERE WHAT IT READS IS OF BULK AT MOST 1048576: true; the input reads as it did. -/
def fixDivsUptoRow : OpenClaim := { program := "ytadilccdipcmnaa", sum := "8316319484d19a5856f62f7071ff192280c3315741f35a692689b4b484dc934a", func := "damper/damperlaw02.FixDivs", spec := "fixDivs", apart := false, narrowed := true }
def FixDivsUptoSaid : Prop := fixDivsUptoRow.holds Try.pinned (OpenSpec.upto fixDivsSpec)

/-- 'damperlaw20.BandWidens', WHERE WHAT IT READS IS OF BULK AT MOST 1048576: true; the input reads as it did. -/
def bandWidensUptoRow : OpenClaim := { program := "ytadilccdipcmnaa", sum := "8316319484d19a5856f62f7071ff192280c3315741f35a692689b4b484dc934a", func := "damper/damperlaw20.BandWidens", spec := "bandWidens", unfollowed := true, recurses := true, apart := false, narrowed := true }
def BandWidensUptoSaid : Prop := bandWidensUptoRow.holds Try.pinned (OpenSpec.upto bandWidensSpec)

/-- 'damperlaw02.FixGrids', WHERE WHAT IT READS IS OF BULK AT MOST 1048576: true; the input reads as it did. -/
def fixGridsUptoRow : OpenClaim := { program := "ytadilccdipcmnaa", sum := "8316319484d19a5856f62f7071ff192280c3315741f35a692689b4b484dc934a", func := "damper/damperlaw02.FixGrids", spec := "fixGrids", apart := false, narrowed := true }
def FixGridsUptoSaid : Prop := fixGridsUptoRow.holds Try.pinned (OpenSpec.upto fixGridsSpec)

/-- 'damperlaw02.FixBands', WHERE WHAT IT READS IS OF BULK AT MOST 1048576: true; the input reads as it did. -/
def fixBandsUptoRow : OpenClaim := { program := "ytadilccdipcmnaa", sum := "8316319484d19a5856f62f7071ff192280c3315741f35a692689b4b484dc934a", func := "damper/damperlaw02.FixBands", spec := "fixBands", apart := false, narrowed := true }
def FixBandsUptoSaid : Prop := fixBandsUptoRow.holds Try.pinned (OpenSpec.upto fixBandsSpec)

/-- 'damperlaw01.WideSums', WHERE WHAT IT READS IS OF BULK AT MOST 1048576: true; the input reads as it did. -/
def wideSumsUptoRow : OpenClaim := { program := "ytadilccdipcmnaa", sum := "8316319484d19a5856f62f7071ff192280c3315741f35a692689b4b484dc934a", func := "damper/damperlaw01.WideSums", spec := "wideSums", inPlace := ["internal/abi.NoEscape"], unfollowed := true, recurses := true, apart := false, narrowed := true }
def WideSumsUptoSaid : Prop := wideSumsUptoRow.holds Try.pinned (OpenSpec.upto wideSumsSpec)

/-- 'damperlaw02.FixAround', WHERE WHAT IT READS IS OF BULK AT MOST 1048576: true; the input reads as it did. -/
def fixAroundUptoRow : OpenClaim := { program := "ytadilccdipcmnaa", sum := "8316319484d19a5856f62f7071ff192280c3315741f35a692689b4b484dc934a", func := "damper/damperlaw02.FixAround", spec := "fixAround", apart := false, narrowed := true }
def FixAroundUptoSaid : Prop := fixAroundUptoRow.holds Try.pinned (OpenSpec.upto fixAroundSpec)

/-- 'damperlaw02.FixSums', WHERE WHAT IT READS IS OF BULK AT MOST 1048576: true; the input reads as it did. -/
def fixSumsUptoRow : OpenClaim := { program := "ytadilccdipcmnaa", sum := "8316319484d19a5856f62f7071ff192280c3315741f35a692689b4b484dc934a", func := "damper/damperlaw02.FixSums", spec := "fixSums", apart := false, narrowed := true }
def FixSumsUptoSaid : Prop := fixSumsUptoRow.holds Try.pinned (OpenSpec.upto fixSumsSpec)

/-- 'damperlaw02.FixChecks', WHERE WHAT IT READS IS OF BULK AT MOST 1048576: true; the input reads as it did. -/
def fixChecksUptoRow : OpenClaim := { program := "ytadilccdipcmnaa", sum := "8316319484d19a5856f62f7071ff192280c3315741f35a692689b4b484dc934a", func := "damper/damperlaw02.FixChecks", spec := "fixChecks", unfollowed := true, recurses := true, apart := false, narrowed := true }
def FixChecksUptoSaid : Prop := fixChecksUptoRow.holds Try.pinned (OpenSpec.upto fixChecksSpec)

/-- 'damperlaw20.BandOfs', WHERE WHAT IT READS IS OF BULK AT MOST 1048576: true; the input reads as it did. -/
def bandOfsUptoRow : OpenClaim := { program := "ytadilccdipcmnaa", sum := "8316319484d19a5856f62f7071ff192280c3315741f35a692689b4b484dc934a", func := "damper/damperlaw20.BandOfs", spec := "bandOfs", apart := false, narrowed := true }
def BandOfsUptoSaid : Prop := bandOfsUptoRow.holds Try.pinned (OpenSpec.upto bandOfsSpec)

/-- 'damperlaw20.BandLooks', WHERE WHAT IT READS IS OF BULK AT MOST 1048576: true; the input reads as it did. -/
def bandLooksUptoRow : OpenClaim := { program := "ytadilccdipcmnaa", sum := "8316319484d19a5856f62f7071ff192280c3315741f35a692689b4b484dc934a", func := "damper/damperlaw20.BandLooks", spec := "bandLooks", apart := false, narrowed := true }
def BandLooksUptoSaid : Prop := bandLooksUptoRow.holds Try.pinned (OpenSpec.upto bandLooksSpec)

/-- 'damperlaw19.WindowBetween', WHERE WHAT IT READS IS OF BULK AT MOST 1048576: true; the input reads as it did. -/
def windowBetweenUptoRow : OpenClaim := { program := "ytadilccdipcmnaa", sum := "8316319484d19a5856f62f7071ff192280c3315741f35a692689b4b484dc934a", func := "damper/damperlaw19.WindowBetween", spec := "windowBetween", unfollowed := true, recurses := true, apart := false, narrowed := true }
def WindowBetweenUptoSaid : Prop := windowBetweenUptoRow.holds Try.pinned (OpenSpec.upto windowBetweenSpec)

/-- 'damperlaw19.WindowMoves', WHERE WHAT IT READS IS OF BULK AT MOST 1048576: true; the input reads as it did. -/
def windowMovesUptoRow : OpenClaim := { program := "ytadilccdipcmnaa", sum := "8316319484d19a5856f62f7071ff192280c3315741f35a692689b4b484dc934a", func := "damper/damperlaw19.WindowMoves", spec := "windowMoves", unfollowed := true, recurses := true, apart := false, narrowed := true }
def WindowMovesUptoSaid : Prop := windowMovesUptoRow.holds Try.pinned (OpenSpec.upto windowMovesSpec)

/-- 'damperlaw19.WindowPlays', WHERE WHAT IT READS IS OF BULK AT MOST 1048576: true; the input reads as it did. -/
def windowPlaysUptoRow : OpenClaim := { program := "ytadilccdipcmnaa", sum := "8316319484d19a5856f62f7071ff192280c3315741f35a692689b4b484dc934a", func := "damper/damperlaw19.WindowPlays", spec := "windowPlays", unfollowed := true, recurses := true, apart := false, narrowed := true }
def WindowPlaysUptoSaid : Prop := windowPlaysUptoRow.holds Try.pinned (OpenSpec.upto windowPlaysSpec)

/-- 'damperlaw19.WindowNils', WHERE WHAT IT READS IS OF BULK AT MOST 1048576: true; the input reads as it did. -/
def windowNilsUptoRow : OpenClaim := { program := "ytadilccdipcmnaa", sum := "8316319484d19a5856f62f7071ff192280c3315741f35a692689b4b484dc934a", func := "damper/damperlaw19.WindowNils", spec := "windowNils", unfollowed := true, recurses := true, apart := false, narrowed := true }
def WindowNilsUptoSaid : Prop := windowNilsUptoRow.holds Try.pinned (OpenSpec.upto windowNilsSpec)

end Rows
end Go.Proofs.Ytadilccdipcmnaa
