/-
  No cell of these rows narrows 'for every input' (looked for: loops, veiled, ifaces, maps, wideKeys, modest, calm, conditions, laid).
  DERIVED. THE GIVEN ROWS OF THIS SEAT. 12 by the template 'for every input the law returns true; each argument reads behind the call as it read before'; 0 by the template 'total and deterministic' (their statements: YtmgldjkgneiejaaTotals.lean).
  GIVEN WITH THE SEED: the statements are not yours to turn. If you find one false, say at which input.
  Laid BY PROGRAM, IN A SANDBOX (cutbox-rows.mjs): the forced cells as the released guide's own fill.sh prints them over the translation 62065e49d99abb32… (all of the seat's roots in one cut). By AI agents, Wed Nov 11 2026. No macro, syntax, notation, axiom, sorry.
-/
import Derived.Test.YtmgldjkgneiejaaChecked
import GoSem.Claim
import GoSem.ClaimJoined
import GoSem.ClaimMapViews
import Derived.JoinedTies
import Derived.KernelRfl
namespace Go.Proofs.Ytmgldjkgneiejaa
/- THE CELL 'sum', in the pinned program and in every row, IS THE sha256 OF THE DUMP (.gsa) THAT YtmgldjkgneiejaaProg.lean LOADS. Nothing in Lean hashes anything: it is a label: what it is worth is what the hold of that sum in a sandbox is worth. -/
noncomputable def Try.pinned : Pinned := { name := "ytmgldjkgneiejaa", sum := "62065e49d99abb3265924ae75a2bfbeea6b144108f1122dd16ee0e094a176ccb", checked := Try.checked }
namespace Rows
def none {H : Type} : Left H := { results := [], args := [] }

/-- 'weirkeep.ShortLoop': WHATEVER THE INPUT: true; the input reads as it did. -/
def shortLoopSpec : ChangeSpec := { name := "shortLoop", fn := fun _ => fun
  | [d1, d2] => { results := [.lit (.bool true)], args := [d1, d2] }
  | _ => none }
def shortLoopRow : OpenClaim := { program := "ytmgldjkgneiejaa", sum := "62065e49d99abb3265924ae75a2bfbeea6b144108f1122dd16ee0e094a176ccb", func := "weirmaster/weirkeep.ShortLoop", spec := "shortLoop", apart := false }
def ShortLoopSaid : Prop := shortLoopRow.holds Try.pinned (OpenSpec.ofChange shortLoopSpec)

/-- ITS FALSE NEIGHBOUR: 'it returns false'. Refute it at one input. -/
def shortLoopWrong : ChangeSpec := { name := "shortLoop", fn := fun _ => fun
  | [d1, d2] => { results := [.lit (.bool false)], args := [d1, d2] }
  | _ => none }
def ShortLoopWrongFalsely : Prop := shortLoopRow.holds Try.pinned (OpenSpec.ofChange shortLoopWrong)

/-- 'weirkeep.ShortSteps': WHATEVER THE INPUT: true; the input reads as it did. -/
def shortStepsSpec : ChangeSpec := { name := "shortSteps", fn := fun _ => fun
  | [d1, d2] => { results := [.lit (.bool true)], args := [d1, d2] }
  | _ => none }
def shortStepsRow : OpenClaim := { program := "ytmgldjkgneiejaa", sum := "62065e49d99abb3265924ae75a2bfbeea6b144108f1122dd16ee0e094a176ccb", func := "weirmaster/weirkeep.ShortSteps", spec := "shortSteps", apart := false }
def ShortStepsSaid : Prop := shortStepsRow.holds Try.pinned (OpenSpec.ofChange shortStepsSpec)

/-- ITS FALSE NEIGHBOUR: 'it returns false'. Refute it at one input. -/
def shortStepsWrong : ChangeSpec := { name := "shortSteps", fn := fun _ => fun
  | [d1, d2] => { results := [.lit (.bool false)], args := [d1, d2] }
  | _ => none }
def ShortStepsWrongFalsely : Prop := shortStepsRow.holds Try.pinned (OpenSpec.ofChange shortStepsWrong)

/-- 'weirkeep.ShortWay': WHATEVER THE INPUT: true; the input reads as it did. -/
def shortWaySpec : ChangeSpec := { name := "shortWay", fn := fun _ => fun
  | [d1, d2, d3] => { results := [.lit (.bool true)], args := [d1, d2, d3] }
  | _ => none }
def shortWayRow : OpenClaim := { program := "ytmgldjkgneiejaa", sum := "62065e49d99abb3265924ae75a2bfbeea6b144108f1122dd16ee0e094a176ccb", func := "weirmaster/weirkeep.ShortWay", spec := "shortWay", apart := false }
def ShortWaySaid : Prop := shortWayRow.holds Try.pinned (OpenSpec.ofChange shortWaySpec)

/-- ITS FALSE NEIGHBOUR: 'it returns false'. Refute it at one input. -/
def shortWayWrong : ChangeSpec := { name := "shortWay", fn := fun _ => fun
  | [d1, d2, d3] => { results := [.lit (.bool false)], args := [d1, d2, d3] }
  | _ => none }
def ShortWayWrongFalsely : Prop := shortWayRow.holds Try.pinned (OpenSpec.ofChange shortWayWrong)

/-- 'weirkeep.ShortHeights': WHATEVER THE INPUT: true; the input reads as it did. -/
def shortHeightsSpec : ChangeSpec := { name := "shortHeights", fn := fun _ => fun
  | [d1, d2] => { results := [.lit (.bool true)], args := [d1, d2] }
  | _ => none }
def shortHeightsRow : OpenClaim := { program := "ytmgldjkgneiejaa", sum := "62065e49d99abb3265924ae75a2bfbeea6b144108f1122dd16ee0e094a176ccb", func := "weirmaster/weirkeep.ShortHeights", spec := "shortHeights", apart := false }
def ShortHeightsSaid : Prop := shortHeightsRow.holds Try.pinned (OpenSpec.ofChange shortHeightsSpec)

/-- ITS FALSE NEIGHBOUR: 'it returns false'. Refute it at one input. -/
def shortHeightsWrong : ChangeSpec := { name := "shortHeights", fn := fun _ => fun
  | [d1, d2] => { results := [.lit (.bool false)], args := [d1, d2] }
  | _ => none }
def ShortHeightsWrongFalsely : Prop := shortHeightsRow.holds Try.pinned (OpenSpec.ofChange shortHeightsWrong)

/-- 'weirkeep.ShortThree': WHATEVER THE INPUT: true; the input reads as it did. -/
def shortThreeSpec : ChangeSpec := { name := "shortThree", fn := fun _ => fun
  | [d] => { results := [.lit (.bool true)], args := [d] }
  | _ => none }
def shortThreeRow : OpenClaim := { program := "ytmgldjkgneiejaa", sum := "62065e49d99abb3265924ae75a2bfbeea6b144108f1122dd16ee0e094a176ccb", func := "weirmaster/weirkeep.ShortThree", spec := "shortThree", apart := false }
def ShortThreeSaid : Prop := shortThreeRow.holds Try.pinned (OpenSpec.ofChange shortThreeSpec)

/-- ITS FALSE NEIGHBOUR: 'it returns false'. Refute it at one input. -/
def shortThreeWrong : ChangeSpec := { name := "shortThree", fn := fun _ => fun
  | [d] => { results := [.lit (.bool false)], args := [d] }
  | _ => none }
def ShortThreeWrongFalsely : Prop := shortThreeRow.holds Try.pinned (OpenSpec.ofChange shortThreeWrong)

/-- 'weirkeep.WalkSteps': WHATEVER THE INPUT: true; the input reads as it did. -/
def walkStepsSpec : ChangeSpec := { name := "walkSteps", fn := fun _ => fun
  | [d1, d2] => { results := [.lit (.bool true)], args := [d1, d2] }
  | _ => none }
def walkStepsRow : OpenClaim := { program := "ytmgldjkgneiejaa", sum := "62065e49d99abb3265924ae75a2bfbeea6b144108f1122dd16ee0e094a176ccb", func := "weirmaster/weirkeep.WalkSteps", spec := "walkSteps", apart := false }
def WalkStepsSaid : Prop := walkStepsRow.holds Try.pinned (OpenSpec.ofChange walkStepsSpec)

/-- ITS FALSE NEIGHBOUR: 'it returns false'. Refute it at one input. -/
def walkStepsWrong : ChangeSpec := { name := "walkSteps", fn := fun _ => fun
  | [d1, d2] => { results := [.lit (.bool false)], args := [d1, d2] }
  | _ => none }
def WalkStepsWrongFalsely : Prop := walkStepsRow.holds Try.pinned (OpenSpec.ofChange walkStepsWrong)

/-- 'weirkeep.WalkJoins': WHATEVER THE INPUT: true; the input reads as it did. -/
def walkJoinsSpec : ChangeSpec := { name := "walkJoins", fn := fun _ => fun
  | [d1, d2] => { results := [.lit (.bool true)], args := [d1, d2] }
  | _ => none }
def walkJoinsRow : OpenClaim := { program := "ytmgldjkgneiejaa", sum := "62065e49d99abb3265924ae75a2bfbeea6b144108f1122dd16ee0e094a176ccb", func := "weirmaster/weirkeep.WalkJoins", spec := "walkJoins", apart := false }
def WalkJoinsSaid : Prop := walkJoinsRow.holds Try.pinned (OpenSpec.ofChange walkJoinsSpec)

/-- ITS FALSE NEIGHBOUR: 'it returns false'. Refute it at one input. -/
def walkJoinsWrong : ChangeSpec := { name := "walkJoins", fn := fun _ => fun
  | [d1, d2] => { results := [.lit (.bool false)], args := [d1, d2] }
  | _ => none }
def WalkJoinsWrongFalsely : Prop := walkJoinsRow.holds Try.pinned (OpenSpec.ofChange walkJoinsWrong)

/-- 'weirkeep.WalkTurned': WHATEVER THE INPUT: true; the input reads as it did. -/
def walkTurnedSpec : ChangeSpec := { name := "walkTurned", fn := fun _ => fun
  | [d1, d2, d3] => { results := [.lit (.bool true)], args := [d1, d2, d3] }
  | _ => none }
def walkTurnedRow : OpenClaim := { program := "ytmgldjkgneiejaa", sum := "62065e49d99abb3265924ae75a2bfbeea6b144108f1122dd16ee0e094a176ccb", func := "weirmaster/weirkeep.WalkTurned", spec := "walkTurned", apart := false }
def WalkTurnedSaid : Prop := walkTurnedRow.holds Try.pinned (OpenSpec.ofChange walkTurnedSpec)

/-- ITS FALSE NEIGHBOUR: 'it returns false'. Refute it at one input. -/
def walkTurnedWrong : ChangeSpec := { name := "walkTurned", fn := fun _ => fun
  | [d1, d2, d3] => { results := [.lit (.bool false)], args := [d1, d2, d3] }
  | _ => none }
def WalkTurnedWrongFalsely : Prop := walkTurnedRow.holds Try.pinned (OpenSpec.ofChange walkTurnedWrong)

/-- 'weirkeep.WalkOdd': WHATEVER THE INPUT: true; the input reads as it did. -/
def walkOddSpec : ChangeSpec := { name := "walkOdd", fn := fun _ => fun
  | [d1, d2] => { results := [.lit (.bool true)], args := [d1, d2] }
  | _ => none }
def walkOddRow : OpenClaim := { program := "ytmgldjkgneiejaa", sum := "62065e49d99abb3265924ae75a2bfbeea6b144108f1122dd16ee0e094a176ccb", func := "weirmaster/weirkeep.WalkOdd", spec := "walkOdd", apart := false }
def WalkOddSaid : Prop := walkOddRow.holds Try.pinned (OpenSpec.ofChange walkOddSpec)

/-- ITS FALSE NEIGHBOUR: 'it returns false'. Refute it at one input. -/
def walkOddWrong : ChangeSpec := { name := "walkOdd", fn := fun _ => fun
  | [d1, d2] => { results := [.lit (.bool false)], args := [d1, d2] }
  | _ => none }
def WalkOddWrongFalsely : Prop := walkOddRow.holds Try.pinned (OpenSpec.ofChange walkOddWrong)

/-- 'weirkeep.WalkPlain': WHATEVER THE INPUT: true; the input reads as it did. -/
def walkPlainSpec : ChangeSpec := { name := "walkPlain", fn := fun _ => fun
  | [d1, d2, d3] => { results := [.lit (.bool true)], args := [d1, d2, d3] }
  | _ => none }
def walkPlainRow : OpenClaim := { program := "ytmgldjkgneiejaa", sum := "62065e49d99abb3265924ae75a2bfbeea6b144108f1122dd16ee0e094a176ccb", func := "weirmaster/weirkeep.WalkPlain", spec := "walkPlain", apart := false }
def WalkPlainSaid : Prop := walkPlainRow.holds Try.pinned (OpenSpec.ofChange walkPlainSpec)

/-- ITS FALSE NEIGHBOUR: 'it returns false'. Refute it at one input. -/
def walkPlainWrong : ChangeSpec := { name := "walkPlain", fn := fun _ => fun
  | [d1, d2, d3] => { results := [.lit (.bool false)], args := [d1, d2, d3] }
  | _ => none }
def WalkPlainWrongFalsely : Prop := walkPlainRow.holds Try.pinned (OpenSpec.ofChange walkPlainWrong)

/-- 'weirkeep.GraphTurns': WHATEVER THE INPUT: true; the input reads as it did. -/
def graphTurnsSpec : ChangeSpec := { name := "graphTurns", fn := fun _ => fun
  | [d] => { results := [.lit (.bool true)], args := [d] }
  | _ => none }
def graphTurnsRow : OpenClaim := { program := "ytmgldjkgneiejaa", sum := "62065e49d99abb3265924ae75a2bfbeea6b144108f1122dd16ee0e094a176ccb", func := "weirmaster/weirkeep.GraphTurns", spec := "graphTurns", apart := false }
def GraphTurnsSaid : Prop := graphTurnsRow.holds Try.pinned (OpenSpec.ofChange graphTurnsSpec)

/-- ITS FALSE NEIGHBOUR: 'it returns false'. Refute it at one input. -/
def graphTurnsWrong : ChangeSpec := { name := "graphTurns", fn := fun _ => fun
  | [d] => { results := [.lit (.bool false)], args := [d] }
  | _ => none }
def GraphTurnsWrongFalsely : Prop := graphTurnsRow.holds Try.pinned (OpenSpec.ofChange graphTurnsWrong)

/-- 'weirkeep.GraphLess': WHATEVER THE INPUT: true; the input reads as it did. -/
def graphLessSpec : ChangeSpec := { name := "graphLess", fn := fun _ => fun
  | [d1, d2] => { results := [.lit (.bool true)], args := [d1, d2] }
  | _ => none }
def graphLessRow : OpenClaim := { program := "ytmgldjkgneiejaa", sum := "62065e49d99abb3265924ae75a2bfbeea6b144108f1122dd16ee0e094a176ccb", func := "weirmaster/weirkeep.GraphLess", spec := "graphLess", apart := false }
def GraphLessSaid : Prop := graphLessRow.holds Try.pinned (OpenSpec.ofChange graphLessSpec)

/-- ITS FALSE NEIGHBOUR: 'it returns false'. Refute it at one input. -/
def graphLessWrong : ChangeSpec := { name := "graphLess", fn := fun _ => fun
  | [d1, d2] => { results := [.lit (.bool false)], args := [d1, d2] }
  | _ => none }
def GraphLessWrongFalsely : Prop := graphLessRow.holds Try.pinned (OpenSpec.ofChange graphLessWrong)

/- THE SECOND FORM. 'bulk': how many values and letters a reading holds, each counted each time it is reached (what is shared counts as often as it is met; a slice's spare places count too). A statement '..UptoSaid' is the law's where the arguments, and the package variables that the reading takes, are together of bulk at most 1048576: NARROWER than '..Said'. Prove '..Said' where nothing that the law and all that it calls make is longer than what came in: it says more and counts as full. Else prove '..UptoSaid'. A law counts once. -/
mutual
def uptoBulk {H : Type} : DataW H → Nat
  | .lit (.string bytes) => bytes.length + 1
  | .lit _ => 1
  | .nil => 1
  | .ptr d => uptoBulk d + 1
  | .slice elems spare => uptoBulkAll elems + uptoBulkAll spare + 1
  | .agg parts => uptoBulkAll parts + 1
  | .iface _ d => uptoBulk d + 1
  | .map entries => uptoBulkEntries entries + 1
  | .held _ => 1
def uptoBulkAll {H : Type} : List (DataW H) → Nat
  | [] => 0
  | d :: r => uptoBulk d + uptoBulkAll r
def uptoBulkEntries {H : Type} : List (Lit × DataW H) → Nat
  | [] => 0
  | x :: r => uptoBulkEntry x + uptoBulkEntries r
def uptoBulkEntry {H : Type} : Lit × DataW H → Nat
  | (.string bytes, d) => bytes.length + uptoBulk d + 1
  | (_, d) => uptoBulk d + 1
 end
def uptoSmall : (H : Type) → List (DataW H) → Bool := fun _ ds => decide (uptoBulkAll ds ≤ 1048576)
def OpenSpec.upto (s : _root_.Go.ChangeSpec) : _root_.Go.OpenSpec := { _root_.Go.OpenSpec.ofChange s with cond := some uptoSmall }

/-- 'weirkeep.ShortLoop', WHERE WHAT IT READS IS OF BULK AT MOST 1048576: true; the input reads as it did. -/
def shortLoopUptoRow : OpenClaim := { program := "ytmgldjkgneiejaa", sum := "62065e49d99abb3265924ae75a2bfbeea6b144108f1122dd16ee0e094a176ccb", func := "weirmaster/weirkeep.ShortLoop", spec := "shortLoop", apart := false, narrowed := true }
def ShortLoopUptoSaid : Prop := shortLoopUptoRow.holds Try.pinned (OpenSpec.upto shortLoopSpec)

/-- 'weirkeep.ShortSteps', WHERE WHAT IT READS IS OF BULK AT MOST 1048576: true; the input reads as it did. -/
def shortStepsUptoRow : OpenClaim := { program := "ytmgldjkgneiejaa", sum := "62065e49d99abb3265924ae75a2bfbeea6b144108f1122dd16ee0e094a176ccb", func := "weirmaster/weirkeep.ShortSteps", spec := "shortSteps", apart := false, narrowed := true }
def ShortStepsUptoSaid : Prop := shortStepsUptoRow.holds Try.pinned (OpenSpec.upto shortStepsSpec)

/-- 'weirkeep.ShortWay', WHERE WHAT IT READS IS OF BULK AT MOST 1048576: true; the input reads as it did. -/
def shortWayUptoRow : OpenClaim := { program := "ytmgldjkgneiejaa", sum := "62065e49d99abb3265924ae75a2bfbeea6b144108f1122dd16ee0e094a176ccb", func := "weirmaster/weirkeep.ShortWay", spec := "shortWay", apart := false, narrowed := true }
def ShortWayUptoSaid : Prop := shortWayUptoRow.holds Try.pinned (OpenSpec.upto shortWaySpec)

/-- 'weirkeep.ShortHeights', WHERE WHAT IT READS IS OF BULK AT MOST 1048576: true; the input reads as it did. -/
def shortHeightsUptoRow : OpenClaim := { program := "ytmgldjkgneiejaa", sum := "62065e49d99abb3265924ae75a2bfbeea6b144108f1122dd16ee0e094a176ccb", func := "weirmaster/weirkeep.ShortHeights", spec := "shortHeights", apart := false, narrowed := true }
def ShortHeightsUptoSaid : Prop := shortHeightsUptoRow.holds Try.pinned (OpenSpec.upto shortHeightsSpec)

/-- 'weirkeep.ShortThree', WHERE WHAT IT READS IS OF BULK AT MOST 1048576: true; the input reads as it did. -/
def shortThreeUptoRow : OpenClaim := { program := "ytmgldjkgneiejaa", sum := "62065e49d99abb3265924ae75a2bfbeea6b144108f1122dd16ee0e094a176ccb", func := "weirmaster/weirkeep.ShortThree", spec := "shortThree", apart := false, narrowed := true }
def ShortThreeUptoSaid : Prop := shortThreeUptoRow.holds Try.pinned (OpenSpec.upto shortThreeSpec)

/-- 'weirkeep.WalkSteps', WHERE WHAT IT READS IS OF BULK AT MOST 1048576: true; the input reads as it did. -/
def walkStepsUptoRow : OpenClaim := { program := "ytmgldjkgneiejaa", sum := "62065e49d99abb3265924ae75a2bfbeea6b144108f1122dd16ee0e094a176ccb", func := "weirmaster/weirkeep.WalkSteps", spec := "walkSteps", apart := false, narrowed := true }
def WalkStepsUptoSaid : Prop := walkStepsUptoRow.holds Try.pinned (OpenSpec.upto walkStepsSpec)

/-- 'weirkeep.WalkJoins', WHERE WHAT IT READS IS OF BULK AT MOST 1048576: true; the input reads as it did. -/
def walkJoinsUptoRow : OpenClaim := { program := "ytmgldjkgneiejaa", sum := "62065e49d99abb3265924ae75a2bfbeea6b144108f1122dd16ee0e094a176ccb", func := "weirmaster/weirkeep.WalkJoins", spec := "walkJoins", apart := false, narrowed := true }
def WalkJoinsUptoSaid : Prop := walkJoinsUptoRow.holds Try.pinned (OpenSpec.upto walkJoinsSpec)

/-- 'weirkeep.WalkTurned', WHERE WHAT IT READS IS OF BULK AT MOST 1048576: true; the input reads as it did. -/
def walkTurnedUptoRow : OpenClaim := { program := "ytmgldjkgneiejaa", sum := "62065e49d99abb3265924ae75a2bfbeea6b144108f1122dd16ee0e094a176ccb", func := "weirmaster/weirkeep.WalkTurned", spec := "walkTurned", apart := false, narrowed := true }
def WalkTurnedUptoSaid : Prop := walkTurnedUptoRow.holds Try.pinned (OpenSpec.upto walkTurnedSpec)

/-- 'weirkeep.WalkOdd', WHERE WHAT IT READS IS OF BULK AT MOST 1048576: true; the input reads as it did. -/
def walkOddUptoRow : OpenClaim := { program := "ytmgldjkgneiejaa", sum := "62065e49d99abb3265924ae75a2bfbeea6b144108f1122dd16ee0e094a176ccb", func := "weirmaster/weirkeep.WalkOdd", spec := "walkOdd", apart := false, narrowed := true }
def WalkOddUptoSaid : Prop := walkOddUptoRow.holds Try.pinned (OpenSpec.upto walkOddSpec)

/-- 'weirkeep.WalkPlain', WHERE WHAT IT READS IS OF BULK AT MOST 1048576: true; the input reads as it did. -/
def walkPlainUptoRow : OpenClaim := { program := "ytmgldjkgneiejaa", sum := "62065e49d99abb3265924ae75a2bfbeea6b144108f1122dd16ee0e094a176ccb", func := "weirmaster/weirkeep.WalkPlain", spec := "walkPlain", apart := false, narrowed := true }
def WalkPlainUptoSaid : Prop := walkPlainUptoRow.holds Try.pinned (OpenSpec.upto walkPlainSpec)

/-- 'weirkeep.GraphTurns', WHERE WHAT IT READS IS OF BULK AT MOST 1048576: true; the input reads as it did. -/
def graphTurnsUptoRow : OpenClaim := { program := "ytmgldjkgneiejaa", sum := "62065e49d99abb3265924ae75a2bfbeea6b144108f1122dd16ee0e094a176ccb", func := "weirmaster/weirkeep.GraphTurns", spec := "graphTurns", apart := false, narrowed := true }
def GraphTurnsUptoSaid : Prop := graphTurnsUptoRow.holds Try.pinned (OpenSpec.upto graphTurnsSpec)

/-- 'weirkeep.GraphLess', WHERE WHAT IT READS IS OF BULK AT MOST 1048576: true; the input reads as it did. -/
def graphLessUptoRow : OpenClaim := { program := "ytmgldjkgneiejaa", sum := "62065e49d99abb3265924ae75a2bfbeea6b144108f1122dd16ee0e094a176ccb", func := "weirmaster/weirkeep.GraphLess", spec := "graphLess", apart := false, narrowed := true }
def GraphLessUptoSaid : Prop := graphLessUptoRow.holds Try.pinned (OpenSpec.upto graphLessSpec)

end Rows
end Go.Proofs.Ytmgldjkgneiejaa
