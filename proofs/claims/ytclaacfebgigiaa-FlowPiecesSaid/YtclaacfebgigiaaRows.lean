/-
  No cell of these rows narrows 'for every input' (looked for: loops, veiled, ifaces, maps, wideKeys, modest, calm, conditions, laid).
  DERIVED. THE GIVEN ROWS OF THIS SEAT. 12 by the template 'for every input the law returns true; each argument reads behind the call as it read before'; 0 by the template 'total and deterministic' (their statements: YtclaacfebgigiaaTotals.lean).
  GIVEN WITH THE SEED: the statements are not yours to turn. If you find one false, say at which input.
  Laid BY PROGRAM, IN A SANDBOX (cutbox-rows.mjs): the forced cells as the released guide's own fill.sh prints them over the translation c1b03448f58ff851… (all of the seat's roots in one cut). By AI agents, Wed Nov 11 2026. No macro, syntax, notation, axiom, sorry.
-/
import Derived.Test.YtclaacfebgigiaaChecked
import GoSem.Claim
import GoSem.ClaimJoined
import GoSem.ClaimMapViews
import Derived.JoinedTies
import Derived.KernelRfl
namespace Go.Proofs.Ytclaacfebgigiaa
/- THE CELL 'sum', in the pinned program and in every row, IS THE sha256 OF THE DUMP (.gsa) THAT YtclaacfebgigiaaProg.lean LOADS. Nothing in Lean hashes anything: it is a label: what it is worth is what the hold of that sum in a sandbox is worth. -/
noncomputable def Try.pinned : Pinned := { name := "ytclaacfebgigiaa", sum := "c1b03448f58ff851ddf184ff44df6bcc353aaaa31c077d58302250b89e57d0dd", checked := Try.checked }
namespace Rows
def none {H : Type} : Left H := { results := [], args := [] }

/-- 'weirkeep.FlowCuts': WHATEVER THE INPUT: true; the input reads as it did. -/
def flowCutsSpec : ChangeSpec := { name := "flowCuts", fn := fun _ => fun
  | [d1, d2, d3] => { results := [.lit (.bool true)], args := [d1, d2, d3] }
  | _ => none }
def flowCutsRow : OpenClaim := { program := "ytclaacfebgigiaa", sum := "c1b03448f58ff851ddf184ff44df6bcc353aaaa31c077d58302250b89e57d0dd", func := "weirmaster/weirkeep.FlowCuts", spec := "flowCuts", apart := false }
def FlowCutsSaid : Prop := flowCutsRow.holds Try.pinned (OpenSpec.ofChange flowCutsSpec)

/-- ITS FALSE NEIGHBOUR: 'it returns false'. Refute it at one input. -/
def flowCutsWrong : ChangeSpec := { name := "flowCuts", fn := fun _ => fun
  | [d1, d2, d3] => { results := [.lit (.bool false)], args := [d1, d2, d3] }
  | _ => none }
def FlowCutsWrongFalsely : Prop := flowCutsRow.holds Try.pinned (OpenSpec.ofChange flowCutsWrong)

/-- 'weirkeep.FlowSums': WHATEVER THE INPUT: true; the input reads as it did. -/
def flowSumsSpec : ChangeSpec := { name := "flowSums", fn := fun _ => fun
  | [d1, d2, d3] => { results := [.lit (.bool true)], args := [d1, d2, d3] }
  | _ => none }
def flowSumsRow : OpenClaim := { program := "ytclaacfebgigiaa", sum := "c1b03448f58ff851ddf184ff44df6bcc353aaaa31c077d58302250b89e57d0dd", func := "weirmaster/weirkeep.FlowSums", spec := "flowSums", apart := false }
def FlowSumsSaid : Prop := flowSumsRow.holds Try.pinned (OpenSpec.ofChange flowSumsSpec)

/-- ITS FALSE NEIGHBOUR: 'it returns false'. Refute it at one input. -/
def flowSumsWrong : ChangeSpec := { name := "flowSums", fn := fun _ => fun
  | [d1, d2, d3] => { results := [.lit (.bool false)], args := [d1, d2, d3] }
  | _ => none }
def FlowSumsWrongFalsely : Prop := flowSumsRow.holds Try.pinned (OpenSpec.ofChange flowSumsWrong)

/-- 'weirkeep.FlowTurned': WHATEVER THE INPUT: true; the input reads as it did. -/
def flowTurnedSpec : ChangeSpec := { name := "flowTurned", fn := fun _ => fun
  | [d1, d2] => { results := [.lit (.bool true)], args := [d1, d2] }
  | _ => none }
def flowTurnedRow : OpenClaim := { program := "ytclaacfebgigiaa", sum := "c1b03448f58ff851ddf184ff44df6bcc353aaaa31c077d58302250b89e57d0dd", func := "weirmaster/weirkeep.FlowTurned", spec := "flowTurned", apart := false }
def FlowTurnedSaid : Prop := flowTurnedRow.holds Try.pinned (OpenSpec.ofChange flowTurnedSpec)

/-- ITS FALSE NEIGHBOUR: 'it returns false'. Refute it at one input. -/
def flowTurnedWrong : ChangeSpec := { name := "flowTurned", fn := fun _ => fun
  | [d1, d2] => { results := [.lit (.bool false)], args := [d1, d2] }
  | _ => none }
def FlowTurnedWrongFalsely : Prop := flowTurnedRow.holds Try.pinned (OpenSpec.ofChange flowTurnedWrong)

/-- 'weirkeep.FlowPieces': WHATEVER THE INPUT: true; the input reads as it did. -/
def flowPiecesSpec : ChangeSpec := { name := "flowPieces", fn := fun _ => fun
  | [d1, d2, d3] => { results := [.lit (.bool true)], args := [d1, d2, d3] }
  | _ => none }
def flowPiecesRow : OpenClaim := { program := "ytclaacfebgigiaa", sum := "c1b03448f58ff851ddf184ff44df6bcc353aaaa31c077d58302250b89e57d0dd", func := "weirmaster/weirkeep.FlowPieces", spec := "flowPieces", unfollowed := true, recurses := true, apart := false }
def FlowPiecesSaid : Prop := flowPiecesRow.holds Try.pinned (OpenSpec.ofChange flowPiecesSpec)

/-- ITS FALSE NEIGHBOUR: 'it returns false'. Refute it at one input. -/
def flowPiecesWrong : ChangeSpec := { name := "flowPieces", fn := fun _ => fun
  | [d1, d2, d3] => { results := [.lit (.bool false)], args := [d1, d2, d3] }
  | _ => none }
def FlowPiecesWrongFalsely : Prop := flowPiecesRow.holds Try.pinned (OpenSpec.ofChange flowPiecesWrong)

/-- 'weirkeep.LevelFew': WHATEVER THE INPUT: true; the input reads as it did. -/
def levelFewSpec : ChangeSpec := { name := "levelFew", fn := fun _ => fun
  | [d] => { results := [.lit (.bool true)], args := [d] }
  | _ => none }
def levelFewRow : OpenClaim := { program := "ytclaacfebgigiaa", sum := "c1b03448f58ff851ddf184ff44df6bcc353aaaa31c077d58302250b89e57d0dd", func := "weirmaster/weirkeep.LevelFew", spec := "levelFew", recurses := true, apart := false }
def LevelFewSaid : Prop := levelFewRow.holds Try.pinned (OpenSpec.ofChange levelFewSpec)

/-- ITS FALSE NEIGHBOUR: 'it returns false'. Refute it at one input. -/
def levelFewWrong : ChangeSpec := { name := "levelFew", fn := fun _ => fun
  | [d] => { results := [.lit (.bool false)], args := [d] }
  | _ => none }
def LevelFewWrongFalsely : Prop := levelFewRow.holds Try.pinned (OpenSpec.ofChange levelFewWrong)

/-- 'weirkeep.LevelSame': WHATEVER THE INPUT: true; the input reads as it did. -/
def levelSameSpec : ChangeSpec := { name := "levelSame", fn := fun _ => fun
  | [d] => { results := [.lit (.bool true)], args := [d] }
  | _ => none }
def levelSameRow : OpenClaim := { program := "ytclaacfebgigiaa", sum := "c1b03448f58ff851ddf184ff44df6bcc353aaaa31c077d58302250b89e57d0dd", func := "weirmaster/weirkeep.LevelSame", spec := "levelSame", recurses := true, apart := false }
def LevelSameSaid : Prop := levelSameRow.holds Try.pinned (OpenSpec.ofChange levelSameSpec)

/-- ITS FALSE NEIGHBOUR: 'it returns false'. Refute it at one input. -/
def levelSameWrong : ChangeSpec := { name := "levelSame", fn := fun _ => fun
  | [d] => { results := [.lit (.bool false)], args := [d] }
  | _ => none }
def LevelSameWrongFalsely : Prop := levelSameRow.holds Try.pinned (OpenSpec.ofChange levelSameWrong)

/-- 'weirkeep.MostGrows': WHATEVER THE INPUT: true; the input reads as it did. -/
def mostGrowsSpec : ChangeSpec := { name := "mostGrows", fn := fun _ => fun
  | [d1, d2, d3] => { results := [.lit (.bool true)], args := [d1, d2, d3] }
  | _ => none }
def mostGrowsRow : OpenClaim := { program := "ytclaacfebgigiaa", sum := "c1b03448f58ff851ddf184ff44df6bcc353aaaa31c077d58302250b89e57d0dd", func := "weirmaster/weirkeep.MostGrows", spec := "mostGrows", apart := false }
def MostGrowsSaid : Prop := mostGrowsRow.holds Try.pinned (OpenSpec.ofChange mostGrowsSpec)

/-- ITS FALSE NEIGHBOUR: 'it returns false'. Refute it at one input. -/
def mostGrowsWrong : ChangeSpec := { name := "mostGrows", fn := fun _ => fun
  | [d1, d2, d3] => { results := [.lit (.bool false)], args := [d1, d2, d3] }
  | _ => none }
def MostGrowsWrongFalsely : Prop := mostGrowsRow.holds Try.pinned (OpenSpec.ofChange mostGrowsWrong)

/-- 'weirkeep.MostTimes': WHATEVER THE INPUT: true; the input reads as it did. -/
def mostTimesSpec : ChangeSpec := { name := "mostTimes", fn := fun _ => fun
  | [d1, d2, d3] => { results := [.lit (.bool true)], args := [d1, d2, d3] }
  | _ => none }
def mostTimesRow : OpenClaim := { program := "ytclaacfebgigiaa", sum := "c1b03448f58ff851ddf184ff44df6bcc353aaaa31c077d58302250b89e57d0dd", func := "weirmaster/weirkeep.MostTimes", spec := "mostTimes", apart := false }
def MostTimesSaid : Prop := mostTimesRow.holds Try.pinned (OpenSpec.ofChange mostTimesSpec)

/-- ITS FALSE NEIGHBOUR: 'it returns false'. Refute it at one input. -/
def mostTimesWrong : ChangeSpec := { name := "mostTimes", fn := fun _ => fun
  | [d1, d2, d3] => { results := [.lit (.bool false)], args := [d1, d2, d3] }
  | _ => none }
def MostTimesWrongFalsely : Prop := mostTimesRow.holds Try.pinned (OpenSpec.ofChange mostTimesWrong)

/-- 'weirkeep.MostCut': WHATEVER THE INPUT: true; the input reads as it did. -/
def mostCutSpec : ChangeSpec := { name := "mostCut", fn := fun _ => fun
  | [d1, d2, d3] => { results := [.lit (.bool true)], args := [d1, d2, d3] }
  | _ => none }
def mostCutRow : OpenClaim := { program := "ytclaacfebgigiaa", sum := "c1b03448f58ff851ddf184ff44df6bcc353aaaa31c077d58302250b89e57d0dd", func := "weirmaster/weirkeep.MostCut", spec := "mostCut", apart := false }
def MostCutSaid : Prop := mostCutRow.holds Try.pinned (OpenSpec.ofChange mostCutSpec)

/-- ITS FALSE NEIGHBOUR: 'it returns false'. Refute it at one input. -/
def mostCutWrong : ChangeSpec := { name := "mostCut", fn := fun _ => fun
  | [d1, d2, d3] => { results := [.lit (.bool false)], args := [d1, d2, d3] }
  | _ => none }
def MostCutWrongFalsely : Prop := mostCutRow.holds Try.pinned (OpenSpec.ofChange mostCutWrong)

/-- 'weirkeep.MostTurned': WHATEVER THE INPUT: true; the input reads as it did. -/
def mostTurnedSpec : ChangeSpec := { name := "mostTurned", fn := fun _ => fun
  | [d] => { results := [.lit (.bool true)], args := [d] }
  | _ => none }
def mostTurnedRow : OpenClaim := { program := "ytclaacfebgigiaa", sum := "c1b03448f58ff851ddf184ff44df6bcc353aaaa31c077d58302250b89e57d0dd", func := "weirmaster/weirkeep.MostTurned", spec := "mostTurned", apart := false }
def MostTurnedSaid : Prop := mostTurnedRow.holds Try.pinned (OpenSpec.ofChange mostTurnedSpec)

/-- ITS FALSE NEIGHBOUR: 'it returns false'. Refute it at one input. -/
def mostTurnedWrong : ChangeSpec := { name := "mostTurned", fn := fun _ => fun
  | [d] => { results := [.lit (.bool false)], args := [d] }
  | _ => none }
def MostTurnedWrongFalsely : Prop := mostTurnedRow.holds Try.pinned (OpenSpec.ofChange mostTurnedWrong)

/-- 'weirkeep.CutSub': WHATEVER THE INPUT: true; the input reads as it did. -/
def cutSubSpec : ChangeSpec := { name := "cutSub", fn := fun _ => fun
  | [d1, d2, d3] => { results := [.lit (.bool true)], args := [d1, d2, d3] }
  | _ => none }
def cutSubRow : OpenClaim := { program := "ytclaacfebgigiaa", sum := "c1b03448f58ff851ddf184ff44df6bcc353aaaa31c077d58302250b89e57d0dd", func := "weirmaster/weirkeep.CutSub", spec := "cutSub", apart := false }
def CutSubSaid : Prop := cutSubRow.holds Try.pinned (OpenSpec.ofChange cutSubSpec)

/-- ITS FALSE NEIGHBOUR: 'it returns false'. Refute it at one input. -/
def cutSubWrong : ChangeSpec := { name := "cutSub", fn := fun _ => fun
  | [d1, d2, d3] => { results := [.lit (.bool false)], args := [d1, d2, d3] }
  | _ => none }
def CutSubWrongFalsely : Prop := cutSubRow.holds Try.pinned (OpenSpec.ofChange cutSubWrong)

/-- 'weirkeep.CutLattice': WHATEVER THE INPUT: true; the input reads as it did. -/
def cutLatticeSpec : ChangeSpec := { name := "cutLattice", fn := fun _ => fun
  | [d1, d2, d3] => { results := [.lit (.bool true)], args := [d1, d2, d3] }
  | _ => none }
def cutLatticeRow : OpenClaim := { program := "ytclaacfebgigiaa", sum := "c1b03448f58ff851ddf184ff44df6bcc353aaaa31c077d58302250b89e57d0dd", func := "weirmaster/weirkeep.CutLattice", spec := "cutLattice", unfollowed := true, recurses := true, apart := false }
def CutLatticeSaid : Prop := cutLatticeRow.holds Try.pinned (OpenSpec.ofChange cutLatticeSpec)

/-- ITS FALSE NEIGHBOUR: 'it returns false'. Refute it at one input. -/
def cutLatticeWrong : ChangeSpec := { name := "cutLattice", fn := fun _ => fun
  | [d1, d2, d3] => { results := [.lit (.bool false)], args := [d1, d2, d3] }
  | _ => none }
def CutLatticeWrongFalsely : Prop := cutLatticeRow.holds Try.pinned (OpenSpec.ofChange cutLatticeWrong)

/- THE SECOND FORM. 'bulk': how many values and letters a reading holds, each counted each time it is reached (what is shared counts as often as it is met; a slice's spare places count too). A statement '..UptoSaid' is the law's where the arguments, and the package variables that the reading takes, are together of bulk at most 1048576: NARROWER than '..Said'. Prove '..Said' where nothing that the law and all that it calls make is longer than what came in: it says more and counts as full. Else prove '..UptoSaid'. A law counts once. -/
mutual
def uptoBulk {H : Type} : DataW H → Nat
  | .lit (.string bytes) => bytes.length + 1
  | .lit _ => 1
  | .nil => 1
  | .ptr d => uptoBulk d + 1
  | .slice elems spare => uptoBulkAll elems + uptoBulkAll spare + 1
  | .agg parts => uptoBulkAll parts + 1
  | .iface _ d => uptoBulk d + 1
  | .map entries => uptoBulkEntries entries + 1
  | .held _ => 1
def uptoBulkAll {H : Type} : List (DataW H) → Nat
  | [] => 0
  | d :: r => uptoBulk d + uptoBulkAll r
def uptoBulkEntries {H : Type} : List (Lit × DataW H) → Nat
  | [] => 0
  | x :: r => uptoBulkEntry x + uptoBulkEntries r
def uptoBulkEntry {H : Type} : Lit × DataW H → Nat
  | (.string bytes, d) => bytes.length + uptoBulk d + 1
  | (_, d) => uptoBulk d + 1
 end
def uptoSmall : (H : Type) → List (DataW H) → Bool := fun _ ds => decide (uptoBulkAll ds ≤ 1048576)
def OpenSpec.upto (s : _root_.Go.ChangeSpec) : _root_.Go.OpenSpec := { _root_.Go.OpenSpec.ofChange s with cond := some uptoSmall }

/-- 'weirkeep.FlowCuts', WHERE WHAT IT READS IS OF BULK AT MOST 1048576: true; the input reads as it did. -/
def flowCutsUptoRow : OpenClaim := { program := "ytclaacfebgigiaa", sum := "c1b03448f58ff851ddf184ff44df6bcc353aaaa31c077d58302250b89e57d0dd", func := "weirmaster/weirkeep.FlowCuts", spec := "flowCuts", apart := false, narrowed := true }
def FlowCutsUptoSaid : Prop := flowCutsUptoRow.holds Try.pinned (OpenSpec.upto flowCutsSpec)

/-- 'weirkeep.FlowSums', WHERE WHAT IT READS IS OF BULK AT MOST 1048576: true; the input reads as it did. -/
def flowSumsUptoRow : OpenClaim := { program := "ytclaacfebgigiaa", sum := "c1b03448f58ff851ddf184ff44df6bcc353aaaa31c077d58302250b89e57d0dd", func := "weirmaster/weirkeep.FlowSums", spec := "flowSums", apart := false, narrowed := true }
def FlowSumsUptoSaid : Prop := flowSumsUptoRow.holds Try.pinned (OpenSpec.upto flowSumsSpec)

/-- 'weirkeep.FlowTurned', WHERE WHAT IT READS IS OF BULK AT MOST 1048576: true; the input reads as it did. -/
def flowTurnedUptoRow : OpenClaim := { program := "ytclaacfebgigiaa", sum := "c1b03448f58ff851ddf184ff44df6bcc353aaaa31c077d58302250b89e57d0dd", func := "weirmaster/weirkeep.FlowTurned", spec := "flowTurned", apart := false, narrowed := true }
def FlowTurnedUptoSaid : Prop := flowTurnedUptoRow.holds Try.pinned (OpenSpec.upto flowTurnedSpec)

/-- 'weirkeep.FlowPieces', WHERE WHAT IT READS IS OF BULK AT MOST 1048576: true; the input reads as it did. -/
def flowPiecesUptoRow : OpenClaim := { program := "ytclaacfebgigiaa", sum := "c1b03448f58ff851ddf184ff44df6bcc353aaaa31c077d58302250b89e57d0dd", func := "weirmaster/weirkeep.FlowPieces", spec := "flowPieces", unfollowed := true, recurses := true, apart := false, narrowed := true }
def FlowPiecesUptoSaid : Prop := flowPiecesUptoRow.holds Try.pinned (OpenSpec.upto flowPiecesSpec)

/-- 'weirkeep.LevelFew', WHERE WHAT IT READS IS OF BULK AT MOST 1048576: true; the input reads as it did. -/
def levelFewUptoRow : OpenClaim := { program := "ytclaacfebgigiaa", sum := "c1b03448f58ff851ddf184ff44df6bcc353aaaa31c077d58302250b89e57d0dd", func := "weirmaster/weirkeep.LevelFew", spec := "levelFew", recurses := true, apart := false, narrowed := true }
def LevelFewUptoSaid : Prop := levelFewUptoRow.holds Try.pinned (OpenSpec.upto levelFewSpec)

/-- 'weirkeep.LevelSame', WHERE WHAT IT READS IS OF BULK AT MOST 1048576: true; the input reads as it did. -/
def levelSameUptoRow : OpenClaim := { program := "ytclaacfebgigiaa", sum := "c1b03448f58ff851ddf184ff44df6bcc353aaaa31c077d58302250b89e57d0dd", func := "weirmaster/weirkeep.LevelSame", spec := "levelSame", recurses := true, apart := false, narrowed := true }
def LevelSameUptoSaid : Prop := levelSameUptoRow.holds Try.pinned (OpenSpec.upto levelSameSpec)

/-- 'weirkeep.MostGrows', WHERE WHAT IT READS IS OF BULK AT MOST 1048576: true; the input reads as it did. -/
def mostGrowsUptoRow : OpenClaim := { program := "ytclaacfebgigiaa", sum := "c1b03448f58ff851ddf184ff44df6bcc353aaaa31c077d58302250b89e57d0dd", func := "weirmaster/weirkeep.MostGrows", spec := "mostGrows", apart := false, narrowed := true }
def MostGrowsUptoSaid : Prop := mostGrowsUptoRow.holds Try.pinned (OpenSpec.upto mostGrowsSpec)

/-- 'weirkeep.MostTimes', WHERE WHAT IT READS IS OF BULK AT MOST 1048576: true; the input reads as it did. -/
def mostTimesUptoRow : OpenClaim := { program := "ytclaacfebgigiaa", sum := "c1b03448f58ff851ddf184ff44df6bcc353aaaa31c077d58302250b89e57d0dd", func := "weirmaster/weirkeep.MostTimes", spec := "mostTimes", apart := false, narrowed := true }
def MostTimesUptoSaid : Prop := mostTimesUptoRow.holds Try.pinned (OpenSpec.upto mostTimesSpec)

/-- 'weirkeep.MostCut', WHERE WHAT IT READS IS OF BULK AT MOST 1048576: true; the input reads as it did. -/
def mostCutUptoRow : OpenClaim := { program := "ytclaacfebgigiaa", sum := "c1b03448f58ff851ddf184ff44df6bcc353aaaa31c077d58302250b89e57d0dd", func := "weirmaster/weirkeep.MostCut", spec := "mostCut", apart := false, narrowed := true }
def MostCutUptoSaid : Prop := mostCutUptoRow.holds Try.pinned (OpenSpec.upto mostCutSpec)

/-- 'weirkeep.MostTurned', WHERE WHAT IT READS IS OF BULK AT MOST 1048576: true; the input reads as it did. -/
def mostTurnedUptoRow : OpenClaim := { program := "ytclaacfebgigiaa", sum := "c1b03448f58ff851ddf184ff44df6bcc353aaaa31c077d58302250b89e57d0dd", func := "weirmaster/weirkeep.MostTurned", spec := "mostTurned", apart := false, narrowed := true }
def MostTurnedUptoSaid : Prop := mostTurnedUptoRow.holds Try.pinned (OpenSpec.upto mostTurnedSpec)

/-- 'weirkeep.CutSub', WHERE WHAT IT READS IS OF BULK AT MOST 1048576: true; the input reads as it did. -/
def cutSubUptoRow : OpenClaim := { program := "ytclaacfebgigiaa", sum := "c1b03448f58ff851ddf184ff44df6bcc353aaaa31c077d58302250b89e57d0dd", func := "weirmaster/weirkeep.CutSub", spec := "cutSub", apart := false, narrowed := true }
def CutSubUptoSaid : Prop := cutSubUptoRow.holds Try.pinned (OpenSpec.upto cutSubSpec)

/-- 'weirkeep.CutLattice', WHERE WHAT IT READS IS OF BULK AT MOST 1048576: true; the input reads as it did. -/
def cutLatticeUptoRow : OpenClaim := { program := "ytclaacfebgigiaa", sum := "c1b03448f58ff851ddf184ff44df6bcc353aaaa31c077d58302250b89e57d0dd", func := "weirmaster/weirkeep.CutLattice", spec := "cutLattice", unfollowed := true, recurses := true, apart := false, narrowed := true }
def CutLatticeUptoSaid : Prop := cutLatticeUptoRow.holds Try.pinned (OpenSpec.upto cutLatticeSpec)

end Rows
end Go.Proofs.Ytclaacfebgigiaa
