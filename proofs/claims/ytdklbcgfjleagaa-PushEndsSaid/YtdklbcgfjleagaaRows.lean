/-
  No cell of these rows narrows 'for every input' (looked for: loops, veiled, ifaces, maps, wideKeys, modest, calm, conditions, laid).
  DERIVED. THE GIVEN ROWS OF THIS SEAT. 12 by the template 'for every input the law returns true; each argument reads behind the call as it read before'; 0 by the template 'total and deterministic' (their statements: YtdklbcgfjleagaaTotals.lean).
  GIVEN WITH THE SEED: the statements are not yours to turn. If you find one false, say at which input.
  Laid BY PROGRAM, IN A SANDBOX (cutbox-rows.mjs): the forced cells as the released guide's own fill.sh prints them over the translation f3dae9950a381325… (all of the seat's roots in one cut). By AI agents, Wed Nov 11 2026. No macro, syntax, notation, axiom, sorry.
-/
import Derived.Test.YtdklbcgfjleagaaChecked
import GoSem.Claim
import GoSem.ClaimJoined
import GoSem.ClaimMapViews
import Derived.JoinedTies
import Derived.KernelRfl
namespace Go.Proofs.Ytdklbcgfjleagaa
/- THE CELL 'sum', in the pinned program and in every row, IS THE sha256 OF THE DUMP (.gsa) THAT YtdklbcgfjleagaaProg.lean LOADS. Nothing in Lean hashes anything: it is a label: what it is worth is what the hold of that sum in a sandbox is worth. -/
noncomputable def Try.pinned : Pinned := { name := "ytdklbcgfjleagaa", sum := "f3dae9950a381325950a3feacc63adda46f3247f6887985600f0a41d9b0bcd65", checked := Try.checked }
namespace Rows
def none {H : Type} : Left H := { results := [], args := [] }

/-- 'weirkeep.CutTurned': WHATEVER THE INPUT: true; the input reads as it did. -/
def cutTurnedSpec : ChangeSpec := { name := "cutTurned", fn := fun _ => fun
  | [d] => { results := [.lit (.bool true)], args := [d] }
  | _ => none }
def cutTurnedRow : OpenClaim := { program := "ytdklbcgfjleagaa", sum := "f3dae9950a381325950a3feacc63adda46f3247f6887985600f0a41d9b0bcd65", func := "weirmaster/weirkeep.CutTurned", spec := "cutTurned", apart := false }
def CutTurnedSaid : Prop := cutTurnedRow.holds Try.pinned (OpenSpec.ofChange cutTurnedSpec)

/-- ITS FALSE NEIGHBOUR: 'it returns false'. Refute it at one input. -/
def cutTurnedWrong : ChangeSpec := { name := "cutTurned", fn := fun _ => fun
  | [d] => { results := [.lit (.bool false)], args := [d] }
  | _ => none }
def CutTurnedWrongFalsely : Prop := cutTurnedRow.holds Try.pinned (OpenSpec.ofChange cutTurnedWrong)

/-- 'weirkeep.CutFull': WHATEVER THE INPUT: true; the input reads as it did. -/
def cutFullSpec : ChangeSpec := { name := "cutFull", fn := fun _ => fun
  | [d] => { results := [.lit (.bool true)], args := [d] }
  | _ => none }
def cutFullRow : OpenClaim := { program := "ytdklbcgfjleagaa", sum := "f3dae9950a381325950a3feacc63adda46f3247f6887985600f0a41d9b0bcd65", func := "weirmaster/weirkeep.CutFull", spec := "cutFull", recurses := true, apart := false }
def CutFullSaid : Prop := cutFullRow.holds Try.pinned (OpenSpec.ofChange cutFullSpec)

/-- ITS FALSE NEIGHBOUR: 'it returns false'. Refute it at one input. -/
def cutFullWrong : ChangeSpec := { name := "cutFull", fn := fun _ => fun
  | [d] => { results := [.lit (.bool false)], args := [d] }
  | _ => none }
def CutFullWrongFalsely : Prop := cutFullRow.holds Try.pinned (OpenSpec.ofChange cutFullWrong)

/-- 'weirkeep.PushRight': WHATEVER THE INPUT: true; the input reads as it did. -/
def pushRightSpec : ChangeSpec := { name := "pushRight", fn := fun _ => fun
  | [d1, d2] => { results := [.lit (.bool true)], args := [d1, d2] }
  | _ => none }
def pushRightRow : OpenClaim := { program := "ytdklbcgfjleagaa", sum := "f3dae9950a381325950a3feacc63adda46f3247f6887985600f0a41d9b0bcd65", func := "weirmaster/weirkeep.PushRight", spec := "pushRight", apart := false }
def PushRightSaid : Prop := pushRightRow.holds Try.pinned (OpenSpec.ofChange pushRightSpec)

/-- ITS FALSE NEIGHBOUR: 'it returns false'. Refute it at one input. -/
def pushRightWrong : ChangeSpec := { name := "pushRight", fn := fun _ => fun
  | [d1, d2] => { results := [.lit (.bool false)], args := [d1, d2] }
  | _ => none }
def PushRightWrongFalsely : Prop := pushRightRow.holds Try.pinned (OpenSpec.ofChange pushRightWrong)

/-- 'weirkeep.PushHigh': WHATEVER THE INPUT: true; the input reads as it did. -/
def pushHighSpec : ChangeSpec := { name := "pushHigh", fn := fun _ => fun
  | [d1, d2, d3] => { results := [.lit (.bool true)], args := [d1, d2, d3] }
  | _ => none }
def pushHighRow : OpenClaim := { program := "ytdklbcgfjleagaa", sum := "f3dae9950a381325950a3feacc63adda46f3247f6887985600f0a41d9b0bcd65", func := "weirmaster/weirkeep.PushHigh", spec := "pushHigh", apart := false }
def PushHighSaid : Prop := pushHighRow.holds Try.pinned (OpenSpec.ofChange pushHighSpec)

/-- ITS FALSE NEIGHBOUR: 'it returns false'. Refute it at one input. -/
def pushHighWrong : ChangeSpec := { name := "pushHigh", fn := fun _ => fun
  | [d1, d2, d3] => { results := [.lit (.bool false)], args := [d1, d2, d3] }
  | _ => none }
def PushHighWrongFalsely : Prop := pushHighRow.holds Try.pinned (OpenSpec.ofChange pushHighWrong)

/-- 'weirkeep.PushEnds': WHATEVER THE INPUT: true; the input reads as it did. -/
def pushEndsSpec : ChangeSpec := { name := "pushEnds", fn := fun _ => fun
  | [d1, d2] => { results := [.lit (.bool true)], args := [d1, d2] }
  | _ => none }
def pushEndsRow : OpenClaim := { program := "ytdklbcgfjleagaa", sum := "f3dae9950a381325950a3feacc63adda46f3247f6887985600f0a41d9b0bcd65", func := "weirmaster/weirkeep.PushEnds", spec := "pushEnds", apart := false }
def PushEndsSaid : Prop := pushEndsRow.holds Try.pinned (OpenSpec.ofChange pushEndsSpec)

/-- ITS FALSE NEIGHBOUR: 'it returns false'. Refute it at one input. -/
def pushEndsWrong : ChangeSpec := { name := "pushEnds", fn := fun _ => fun
  | [d1, d2] => { results := [.lit (.bool false)], args := [d1, d2] }
  | _ => none }
def PushEndsWrongFalsely : Prop := pushEndsRow.holds Try.pinned (OpenSpec.ofChange pushEndsWrong)

/-- 'weirkeep.NeedFlow': WHATEVER THE INPUT: true; the input reads as it did. -/
def needFlowSpec : ChangeSpec := { name := "needFlow", fn := fun _ => fun
  | [d1, d2] => { results := [.lit (.bool true)], args := [d1, d2] }
  | _ => none }
def needFlowRow : OpenClaim := { program := "ytdklbcgfjleagaa", sum := "f3dae9950a381325950a3feacc63adda46f3247f6887985600f0a41d9b0bcd65", func := "weirmaster/weirkeep.NeedFlow", spec := "needFlow", apart := false }
def NeedFlowSaid : Prop := needFlowRow.holds Try.pinned (OpenSpec.ofChange needFlowSpec)

/-- ITS FALSE NEIGHBOUR: 'it returns false'. Refute it at one input. -/
def needFlowWrong : ChangeSpec := { name := "needFlow", fn := fun _ => fun
  | [d1, d2] => { results := [.lit (.bool false)], args := [d1, d2] }
  | _ => none }
def NeedFlowWrongFalsely : Prop := needFlowRow.holds Try.pinned (OpenSpec.ofChange needFlowWrong)

/-- 'weirkeep.NeedLess': WHATEVER THE INPUT: true; the input reads as it did. -/
def needLessSpec : ChangeSpec := { name := "needLess", fn := fun _ => fun
  | [d1, d2, d3, d4, d5] => { results := [.lit (.bool true)], args := [d1, d2, d3, d4, d5] }
  | _ => none }
def needLessRow : OpenClaim := { program := "ytdklbcgfjleagaa", sum := "f3dae9950a381325950a3feacc63adda46f3247f6887985600f0a41d9b0bcd65", func := "weirmaster/weirkeep.NeedLess", spec := "needLess", apart := false }
def NeedLessSaid : Prop := needLessRow.holds Try.pinned (OpenSpec.ofChange needLessSpec)

/-- ITS FALSE NEIGHBOUR: 'it returns false'. Refute it at one input. -/
def needLessWrong : ChangeSpec := { name := "needLess", fn := fun _ => fun
  | [d1, d2, d3, d4, d5] => { results := [.lit (.bool false)], args := [d1, d2, d3, d4, d5] }
  | _ => none }
def NeedLessWrongFalsely : Prop := needLessRow.holds Try.pinned (OpenSpec.ofChange needLessWrong)

/-- 'weirkeep.NeedSets': WHATEVER THE INPUT: true; the input reads as it did. -/
def needSetsSpec : ChangeSpec := { name := "needSets", fn := fun _ => fun
  | [d1, d2, d3] => { results := [.lit (.bool true)], args := [d1, d2, d3] }
  | _ => none }
def needSetsRow : OpenClaim := { program := "ytdklbcgfjleagaa", sum := "f3dae9950a381325950a3feacc63adda46f3247f6887985600f0a41d9b0bcd65", func := "weirmaster/weirkeep.NeedSets", spec := "needSets", apart := false }
def NeedSetsSaid : Prop := needSetsRow.holds Try.pinned (OpenSpec.ofChange needSetsSpec)

/-- ITS FALSE NEIGHBOUR: 'it returns false'. Refute it at one input. -/
def needSetsWrong : ChangeSpec := { name := "needSets", fn := fun _ => fun
  | [d1, d2, d3] => { results := [.lit (.bool false)], args := [d1, d2, d3] }
  | _ => none }
def NeedSetsWrongFalsely : Prop := needSetsRow.holds Try.pinned (OpenSpec.ofChange needSetsWrong)

/-- 'weirkeep.ProofSound': WHATEVER THE INPUT: true; the input reads as it did. -/
def proofSoundSpec : ChangeSpec := { name := "proofSound", fn := fun _ => fun
  | [d1, d2, d3, d4] => { results := [.lit (.bool true)], args := [d1, d2, d3, d4] }
  | _ => none }
def proofSoundRow : OpenClaim := { program := "ytdklbcgfjleagaa", sum := "f3dae9950a381325950a3feacc63adda46f3247f6887985600f0a41d9b0bcd65", func := "weirmaster/weirkeep.ProofSound", spec := "proofSound", apart := false }
def ProofSoundSaid : Prop := proofSoundRow.holds Try.pinned (OpenSpec.ofChange proofSoundSpec)

/-- ITS FALSE NEIGHBOUR: 'it returns false'. Refute it at one input. -/
def proofSoundWrong : ChangeSpec := { name := "proofSound", fn := fun _ => fun
  | [d1, d2, d3, d4] => { results := [.lit (.bool false)], args := [d1, d2, d3, d4] }
  | _ => none }
def ProofSoundWrongFalsely : Prop := proofSoundRow.holds Try.pinned (OpenSpec.ofChange proofSoundWrong)

/-- 'weirkeep.ProofMade': WHATEVER THE INPUT: true; the input reads as it did. -/
def proofMadeSpec : ChangeSpec := { name := "proofMade", fn := fun _ => fun
  | [d1, d2, d3] => { results := [.lit (.bool true)], args := [d1, d2, d3] }
  | _ => none }
def proofMadeRow : OpenClaim := { program := "ytdklbcgfjleagaa", sum := "f3dae9950a381325950a3feacc63adda46f3247f6887985600f0a41d9b0bcd65", func := "weirmaster/weirkeep.ProofMade", spec := "proofMade", apart := false }
def ProofMadeSaid : Prop := proofMadeRow.holds Try.pinned (OpenSpec.ofChange proofMadeSpec)

/-- ITS FALSE NEIGHBOUR: 'it returns false'. Refute it at one input. -/
def proofMadeWrong : ChangeSpec := { name := "proofMade", fn := fun _ => fun
  | [d1, d2, d3] => { results := [.lit (.bool false)], args := [d1, d2, d3] }
  | _ => none }
def ProofMadeWrongFalsely : Prop := proofMadeRow.holds Try.pinned (OpenSpec.ofChange proofMadeWrong)

/-- 'weirtop.TopRound': WHATEVER THE INPUT: true; the input reads as it did. -/
def topRoundSpec : ChangeSpec := { name := "topRound", fn := fun _ => fun
  | [d] => { results := [.lit (.bool true)], args := [d] }
  | _ => none }
def topRoundRow : OpenClaim := { program := "ytdklbcgfjleagaa", sum := "f3dae9950a381325950a3feacc63adda46f3247f6887985600f0a41d9b0bcd65", func := "weirmaster/weirtop.TopRound", spec := "topRound", apart := false }
def TopRoundSaid : Prop := topRoundRow.holds Try.pinned (OpenSpec.ofChange topRoundSpec)

/-- ITS FALSE NEIGHBOUR: 'it returns false'. Refute it at one input. -/
def topRoundWrong : ChangeSpec := { name := "topRound", fn := fun _ => fun
  | [d] => { results := [.lit (.bool false)], args := [d] }
  | _ => none }
def TopRoundWrongFalsely : Prop := topRoundRow.holds Try.pinned (OpenSpec.ofChange topRoundWrong)

/-- 'weirkeep.LeastNodes': WHATEVER THE INPUT: true; the input reads as it did. -/
def leastNodesSpec : ChangeSpec := { name := "leastNodes", fn := fun _ => fun
  | [d1, d2] => { results := [.lit (.bool true)], args := [d1, d2] }
  | _ => none }
def leastNodesRow : OpenClaim := { program := "ytdklbcgfjleagaa", sum := "f3dae9950a381325950a3feacc63adda46f3247f6887985600f0a41d9b0bcd65", func := "weirmaster/weirkeep.LeastNodes", spec := "leastNodes", apart := false }
def LeastNodesSaid : Prop := leastNodesRow.holds Try.pinned (OpenSpec.ofChange leastNodesSpec)

/-- ITS FALSE NEIGHBOUR: 'it returns false'. Refute it at one input. -/
def leastNodesWrong : ChangeSpec := { name := "leastNodes", fn := fun _ => fun
  | [d1, d2] => { results := [.lit (.bool false)], args := [d1, d2] }
  | _ => none }
def LeastNodesWrongFalsely : Prop := leastNodesRow.holds Try.pinned (OpenSpec.ofChange leastNodesWrong)

/- THE SECOND FORM. 'bulk': how many values and letters a reading holds, each counted each time it is reached (what is shared counts as often as it is met; a slice's spare places count too). A statement '..UptoSaid' is the law's where the arguments, and the package variables that the reading takes, are together of bulk at most 1048576: NARROWER than '..Said'. Prove '..Said' where nothing that the law and all that it calls make is longer than what came in: it says more and counts as full. Else prove '..UptoSaid'. A law counts once. -/
mutual
def uptoBulk {H : Type} : DataW H → Nat
  | .lit (.string bytes) => bytes.length + 1
  | .lit _ => 1
  | .nil => 1
  | .ptr d => uptoBulk d + 1
  | .slice elems spare => uptoBulkAll elems + uptoBulkAll spare + 1
  | .agg parts => uptoBulkAll parts + 1
  | .iface _ d => uptoBulk d + 1
  | .map entries => uptoBulkEntries entries + 1
  | .held _ => 1
def uptoBulkAll {H : Type} : List (DataW H) → Nat
  | [] => 0
  | d :: r => uptoBulk d + uptoBulkAll r
def uptoBulkEntries {H : Type} : List (Lit × DataW H) → Nat
  | [] => 0
  | x :: r => uptoBulkEntry x + uptoBulkEntries r
def uptoBulkEntry {H : Type} : Lit × DataW H → Nat
  | (.string bytes, d) => bytes.length + uptoBulk d + 1
  | (_, d) => uptoBulk d + 1
 end
def uptoSmall : (H : Type) → List (DataW H) → Bool := fun _ ds => decide (uptoBulkAll ds ≤ 1048576)
def OpenSpec.upto (s : _root_.Go.ChangeSpec) : _root_.Go.OpenSpec := { _root_.Go.OpenSpec.ofChange s with cond := some uptoSmall }

/-- 'weirkeep.CutTurned', WHERE WHAT IT READS IS OF BULK AT MOST 1048576: true; the input reads as it did. -/
def cutTurnedUptoRow : OpenClaim := { program := "ytdklbcgfjleagaa", sum := "f3dae9950a381325950a3feacc63adda46f3247f6887985600f0a41d9b0bcd65", func := "weirmaster/weirkeep.CutTurned", spec := "cutTurned", apart := false, narrowed := true }
def CutTurnedUptoSaid : Prop := cutTurnedUptoRow.holds Try.pinned (OpenSpec.upto cutTurnedSpec)

/-- 'weirkeep.CutFull', WHERE WHAT IT READS IS OF BULK AT MOST 1048576: true; the input reads as it did. -/
def cutFullUptoRow : OpenClaim := { program := "ytdklbcgfjleagaa", sum := "f3dae9950a381325950a3feacc63adda46f3247f6887985600f0a41d9b0bcd65", func := "weirmaster/weirkeep.CutFull", spec := "cutFull", recurses := true, apart := false, narrowed := true }
def CutFullUptoSaid : Prop := cutFullUptoRow.holds Try.pinned (OpenSpec.upto cutFullSpec)

/-- 'weirkeep.PushRight', WHERE WHAT IT READS IS OF BULK AT MOST 1048576: true; the input reads as it did. -/
def pushRightUptoRow : OpenClaim := { program := "ytdklbcgfjleagaa", sum := "f3dae9950a381325950a3feacc63adda46f3247f6887985600f0a41d9b0bcd65", func := "weirmaster/weirkeep.PushRight", spec := "pushRight", apart := false, narrowed := true }
def PushRightUptoSaid : Prop := pushRightUptoRow.holds Try.pinned (OpenSpec.upto pushRightSpec)

/-- 'weirkeep.PushHigh', WHERE WHAT IT READS IS OF BULK AT MOST 1048576: true; the input reads as it did. -/
def pushHighUptoRow : OpenClaim := { program := "ytdklbcgfjleagaa", sum := "f3dae9950a381325950a3feacc63adda46f3247f6887985600f0a41d9b0bcd65", func := "weirmaster/weirkeep.PushHigh", spec := "pushHigh", apart := false, narrowed := true }
def PushHighUptoSaid : Prop := pushHighUptoRow.holds Try.pinned (OpenSpec.upto pushHighSpec)

/-- 'weirkeep.PushEnds', WHERE WHAT IT READS IS OF BULK AT MOST 1048576: true; the input reads as it did. -/
def pushEndsUptoRow : OpenClaim := { program := "ytdklbcgfjleagaa", sum := "f3dae9950a381325950a3feacc63adda46f3247f6887985600f0a41d9b0bcd65", func := "weirmaster/weirkeep.PushEnds", spec := "pushEnds", apart := false, narrowed := true }
def PushEndsUptoSaid : Prop := pushEndsUptoRow.holds Try.pinned (OpenSpec.upto pushEndsSpec)

/-- 'weirkeep.NeedFlow', WHERE WHAT IT READS IS OF BULK AT MOST 1048576: true; the input reads as it did. -/
def needFlowUptoRow : OpenClaim := { program := "ytdklbcgfjleagaa", sum := "f3dae9950a381325950a3feacc63adda46f3247f6887985600f0a41d9b0bcd65", func := "weirmaster/weirkeep.NeedFlow", spec := "needFlow", apart := false, narrowed := true }
def NeedFlowUptoSaid : Prop := needFlowUptoRow.holds Try.pinned (OpenSpec.upto needFlowSpec)

/-- 'weirkeep.NeedLess', WHERE WHAT IT READS IS OF BULK AT MOST 1048576: true; the input reads as it did. -/
def needLessUptoRow : OpenClaim := { program := "ytdklbcgfjleagaa", sum := "f3dae9950a381325950a3feacc63adda46f3247f6887985600f0a41d9b0bcd65", func := "weirmaster/weirkeep.NeedLess", spec := "needLess", apart := false, narrowed := true }
def NeedLessUptoSaid : Prop := needLessUptoRow.holds Try.pinned (OpenSpec.upto needLessSpec)

/-- 'weirkeep.NeedSets', WHERE WHAT IT READS IS OF BULK AT MOST 1048576: true; the input reads as it did. -/
def needSetsUptoRow : OpenClaim := { program := "ytdklbcgfjleagaa", sum := "f3dae9950a381325950a3feacc63adda46f3247f6887985600f0a41d9b0bcd65", func := "weirmaster/weirkeep.NeedSets", spec := "needSets", apart := false, narrowed := true }
def NeedSetsUptoSaid : Prop := needSetsUptoRow.holds Try.pinned (OpenSpec.upto needSetsSpec)

/-- 'weirkeep.ProofSound', WHERE WHAT IT READS IS OF BULK AT MOST 1048576: true; the input reads as it did. -/
def proofSoundUptoRow : OpenClaim := { program := "ytdklbcgfjleagaa", sum := "f3dae9950a381325950a3feacc63adda46f3247f6887985600f0a41d9b0bcd65", func := "weirmaster/weirkeep.ProofSound", spec := "proofSound", apart := false, narrowed := true }
def ProofSoundUptoSaid : Prop := proofSoundUptoRow.holds Try.pinned (OpenSpec.upto proofSoundSpec)

/-- 'weirkeep.ProofMade', WHERE WHAT IT READS IS OF BULK AT MOST 1048576: true; the input reads as it did. -/
def proofMadeUptoRow : OpenClaim := { program := "ytdklbcgfjleagaa", sum := "f3dae9950a381325950a3feacc63adda46f3247f6887985600f0a41d9b0bcd65", func := "weirmaster/weirkeep.ProofMade", spec := "proofMade", apart := false, narrowed := true }
def ProofMadeUptoSaid : Prop := proofMadeUptoRow.holds Try.pinned (OpenSpec.upto proofMadeSpec)

/-- 'weirtop.TopRound', WHERE WHAT IT READS IS OF BULK AT MOST 1048576: true; the input reads as it did. -/
def topRoundUptoRow : OpenClaim := { program := "ytdklbcgfjleagaa", sum := "f3dae9950a381325950a3feacc63adda46f3247f6887985600f0a41d9b0bcd65", func := "weirmaster/weirtop.TopRound", spec := "topRound", apart := false, narrowed := true }
def TopRoundUptoSaid : Prop := topRoundUptoRow.holds Try.pinned (OpenSpec.upto topRoundSpec)

/-- 'weirkeep.LeastNodes', WHERE WHAT IT READS IS OF BULK AT MOST 1048576: true; the input reads as it did. -/
def leastNodesUptoRow : OpenClaim := { program := "ytdklbcgfjleagaa", sum := "f3dae9950a381325950a3feacc63adda46f3247f6887985600f0a41d9b0bcd65", func := "weirmaster/weirkeep.LeastNodes", spec := "leastNodes", apart := false, narrowed := true }
def LeastNodesUptoSaid : Prop := leastNodesUptoRow.holds Try.pinned (OpenSpec.upto leastNodesSpec)

end Rows
end Go.Proofs.Ytdklbcgfjleagaa
