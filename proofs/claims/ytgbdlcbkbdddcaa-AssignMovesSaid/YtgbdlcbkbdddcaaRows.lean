/-
  No cell of these rows narrows 'for every input' (looked for: loops, veiled, ifaces, maps, wideKeys, modest, calm, conditions, laid).
  DERIVED. THE GIVEN ROWS OF THIS SEAT. 12 by the template 'for every input the law returns true; each argument reads behind the call as it read before'; 0 by the template 'total and deterministic' (their statements: YtgbdlcbkbdddcaaTotals.lean).
  GIVEN WITH THE SEED: the statements are not yours to turn. If you find one false, say at which input.
  Laid BY PROGRAM, IN A SANDBOX (cutbox-rows.mjs): the forced cells as the released guide's own fill.sh prints them over the translation fc23c02d9eba1a97… (all of the seat's roots in one cut). By AI agents, Wed Nov 11 2026. No macro, syntax, notation, axiom, sorry.
-/
import Derived.Test.YtgbdlcbkbdddcaaChecked
import GoSem.Claim
import GoSem.ClaimJoined
import GoSem.ClaimMapViews
import Derived.JoinedTies
import Derived.KernelRfl
namespace Go.Proofs.Ytgbdlcbkbdddcaa
/- THE CELL 'sum', in the pinned program and in every row, IS THE sha256 OF THE DUMP (.gsa) THAT YtgbdlcbkbdddcaaProg.lean LOADS. Nothing in Lean hashes anything: it is a label: what it is worth is what the hold of that sum in a sandbox is worth. -/
noncomputable def Try.pinned : Pinned := { name := "ytgbdlcbkbdddcaa", sum := "fc23c02d9eba1a97c933c3375d2b125f90c27a839967ff6fe8f20909adebcb41", checked := Try.checked }
namespace Rows
def none {H : Type} : Left H := { results := [], args := [] }

/-- 'weirkeep.SpanCut': WHATEVER THE INPUT: true; the input reads as it did. -/
def spanCutSpec : ChangeSpec := { name := "spanCut", fn := fun _ => fun
  | [d1, d2] => { results := [.lit (.bool true)], args := [d1, d2] }
  | _ => none }
def spanCutRow : OpenClaim := { program := "ytgbdlcbkbdddcaa", sum := "fc23c02d9eba1a97c933c3375d2b125f90c27a839967ff6fe8f20909adebcb41", func := "weirmaster/weirkeep.SpanCut", spec := "spanCut", unfollowed := true, recurses := true, apart := false }
def SpanCutSaid : Prop := spanCutRow.holds Try.pinned (OpenSpec.ofChange spanCutSpec)

/-- ITS FALSE NEIGHBOUR: 'it returns false'. Refute it at one input. -/
def spanCutWrong : ChangeSpec := { name := "spanCut", fn := fun _ => fun
  | [d1, d2] => { results := [.lit (.bool false)], args := [d1, d2] }
  | _ => none }
def SpanCutWrongFalsely : Prop := spanCutRow.holds Try.pinned (OpenSpec.ofChange spanCutWrong)

/-- 'weirkeep.SpanRound': WHATEVER THE INPUT: true; the input reads as it did. -/
def spanRoundSpec : ChangeSpec := { name := "spanRound", fn := fun _ => fun
  | [d1, d2] => { results := [.lit (.bool true)], args := [d1, d2] }
  | _ => none }
def spanRoundRow : OpenClaim := { program := "ytgbdlcbkbdddcaa", sum := "fc23c02d9eba1a97c933c3375d2b125f90c27a839967ff6fe8f20909adebcb41", func := "weirmaster/weirkeep.SpanRound", spec := "spanRound", unfollowed := true, recurses := true, apart := false }
def SpanRoundSaid : Prop := spanRoundRow.holds Try.pinned (OpenSpec.ofChange spanRoundSpec)

/-- ITS FALSE NEIGHBOUR: 'it returns false'. Refute it at one input. -/
def spanRoundWrong : ChangeSpec := { name := "spanRound", fn := fun _ => fun
  | [d1, d2] => { results := [.lit (.bool false)], args := [d1, d2] }
  | _ => none }
def SpanRoundWrongFalsely : Prop := spanRoundRow.holds Try.pinned (OpenSpec.ofChange spanRoundWrong)

/-- 'weirkeep.SpanWide': WHATEVER THE INPUT: true; the input reads as it did. -/
def spanWideSpec : ChangeSpec := { name := "spanWide", fn := fun _ => fun
  | [d1, d2, d3] => { results := [.lit (.bool true)], args := [d1, d2, d3] }
  | _ => none }
def spanWideRow : OpenClaim := { program := "ytgbdlcbkbdddcaa", sum := "fc23c02d9eba1a97c933c3375d2b125f90c27a839967ff6fe8f20909adebcb41", func := "weirmaster/weirkeep.SpanWide", spec := "spanWide", unfollowed := true, recurses := true, apart := false }
def SpanWideSaid : Prop := spanWideRow.holds Try.pinned (OpenSpec.ofChange spanWideSpec)

/-- ITS FALSE NEIGHBOUR: 'it returns false'. Refute it at one input. -/
def spanWideWrong : ChangeSpec := { name := "spanWide", fn := fun _ => fun
  | [d1, d2, d3] => { results := [.lit (.bool false)], args := [d1, d2, d3] }
  | _ => none }
def SpanWideWrongFalsely : Prop := spanWideRow.holds Try.pinned (OpenSpec.ofChange spanWideWrong)

/-- 'weirkeep.SpanJoins': WHATEVER THE INPUT: true; the input reads as it did. -/
def spanJoinsSpec : ChangeSpec := { name := "spanJoins", fn := fun _ => fun
  | [d] => { results := [.lit (.bool true)], args := [d] }
  | _ => none }
def spanJoinsRow : OpenClaim := { program := "ytgbdlcbkbdddcaa", sum := "fc23c02d9eba1a97c933c3375d2b125f90c27a839967ff6fe8f20909adebcb41", func := "weirmaster/weirkeep.SpanJoins", spec := "spanJoins", unfollowed := true, recurses := true, apart := false }
def SpanJoinsSaid : Prop := spanJoinsRow.holds Try.pinned (OpenSpec.ofChange spanJoinsSpec)

/-- ITS FALSE NEIGHBOUR: 'it returns false'. Refute it at one input. -/
def spanJoinsWrong : ChangeSpec := { name := "spanJoins", fn := fun _ => fun
  | [d] => { results := [.lit (.bool false)], args := [d] }
  | _ => none }
def SpanJoinsWrongFalsely : Prop := spanJoinsRow.holds Try.pinned (OpenSpec.ofChange spanJoinsWrong)

/-- 'weirkeep.AssignDual': WHATEVER THE INPUT: true; the input reads as it did. -/
def assignDualSpec : ChangeSpec := { name := "assignDual", fn := fun _ => fun
  | [d1, d2, d3, d4] => { results := [.lit (.bool true)], args := [d1, d2, d3, d4] }
  | _ => none }
def assignDualRow : OpenClaim := { program := "ytgbdlcbkbdddcaa", sum := "fc23c02d9eba1a97c933c3375d2b125f90c27a839967ff6fe8f20909adebcb41", func := "weirmaster/weirkeep.AssignDual", spec := "assignDual", recurses := true, apart := false }
def AssignDualSaid : Prop := assignDualRow.holds Try.pinned (OpenSpec.ofChange assignDualSpec)

/-- ITS FALSE NEIGHBOUR: 'it returns false'. Refute it at one input. -/
def assignDualWrong : ChangeSpec := { name := "assignDual", fn := fun _ => fun
  | [d1, d2, d3, d4] => { results := [.lit (.bool false)], args := [d1, d2, d3, d4] }
  | _ => none }
def AssignDualWrongFalsely : Prop := assignDualRow.holds Try.pinned (OpenSpec.ofChange assignDualWrong)

/-- 'weirkeep.PairsFew': WHATEVER THE INPUT: true; the input reads as it did. -/
def pairsFewSpec : ChangeSpec := { name := "pairsFew", fn := fun _ => fun
  | [d] => { results := [.lit (.bool true)], args := [d] }
  | _ => none }
def pairsFewRow : OpenClaim := { program := "ytgbdlcbkbdddcaa", sum := "fc23c02d9eba1a97c933c3375d2b125f90c27a839967ff6fe8f20909adebcb41", func := "weirmaster/weirkeep.PairsFew", spec := "pairsFew", recurses := true, apart := false }
def PairsFewSaid : Prop := pairsFewRow.holds Try.pinned (OpenSpec.ofChange pairsFewSpec)

/-- ITS FALSE NEIGHBOUR: 'it returns false'. Refute it at one input. -/
def pairsFewWrong : ChangeSpec := { name := "pairsFew", fn := fun _ => fun
  | [d] => { results := [.lit (.bool false)], args := [d] }
  | _ => none }
def PairsFewWrongFalsely : Prop := pairsFewRow.holds Try.pinned (OpenSpec.ofChange pairsFewWrong)

/-- 'weirkeep.LeastPairs': WHATEVER THE INPUT: true; the input reads as it did. -/
def leastPairsSpec : ChangeSpec := { name := "leastPairs", fn := fun _ => fun
  | [d] => { results := [.lit (.bool true)], args := [d] }
  | _ => none }
def leastPairsRow : OpenClaim := { program := "ytgbdlcbkbdddcaa", sum := "fc23c02d9eba1a97c933c3375d2b125f90c27a839967ff6fe8f20909adebcb41", func := "weirmaster/weirkeep.LeastPairs", spec := "leastPairs", apart := false }
def LeastPairsSaid : Prop := leastPairsRow.holds Try.pinned (OpenSpec.ofChange leastPairsSpec)

/-- ITS FALSE NEIGHBOUR: 'it returns false'. Refute it at one input. -/
def leastPairsWrong : ChangeSpec := { name := "leastPairs", fn := fun _ => fun
  | [d] => { results := [.lit (.bool false)], args := [d] }
  | _ => none }
def LeastPairsWrongFalsely : Prop := leastPairsRow.holds Try.pinned (OpenSpec.ofChange leastPairsWrong)

/-- 'weirkeep.LeastNodes': WHATEVER THE INPUT: true; the input reads as it did. -/
def leastNodesSpec : ChangeSpec := { name := "leastNodes", fn := fun _ => fun
  | [d1, d2] => { results := [.lit (.bool true)], args := [d1, d2] }
  | _ => none }
def leastNodesRow : OpenClaim := { program := "ytgbdlcbkbdddcaa", sum := "fc23c02d9eba1a97c933c3375d2b125f90c27a839967ff6fe8f20909adebcb41", func := "weirmaster/weirkeep.LeastNodes", spec := "leastNodes", apart := false }
def LeastNodesSaid : Prop := leastNodesRow.holds Try.pinned (OpenSpec.ofChange leastNodesSpec)

/-- ITS FALSE NEIGHBOUR: 'it returns false'. Refute it at one input. -/
def leastNodesWrong : ChangeSpec := { name := "leastNodes", fn := fun _ => fun
  | [d1, d2] => { results := [.lit (.bool false)], args := [d1, d2] }
  | _ => none }
def LeastNodesWrongFalsely : Prop := leastNodesRow.holds Try.pinned (OpenSpec.ofChange leastNodesWrong)

/-- 'weirkeep.LevelFew': WHATEVER THE INPUT: true; the input reads as it did. -/
def levelFewSpec : ChangeSpec := { name := "levelFew", fn := fun _ => fun
  | [d] => { results := [.lit (.bool true)], args := [d] }
  | _ => none }
def levelFewRow : OpenClaim := { program := "ytgbdlcbkbdddcaa", sum := "fc23c02d9eba1a97c933c3375d2b125f90c27a839967ff6fe8f20909adebcb41", func := "weirmaster/weirkeep.LevelFew", spec := "levelFew", recurses := true, apart := false }
def LevelFewSaid : Prop := levelFewRow.holds Try.pinned (OpenSpec.ofChange levelFewSpec)

/-- ITS FALSE NEIGHBOUR: 'it returns false'. Refute it at one input. -/
def levelFewWrong : ChangeSpec := { name := "levelFew", fn := fun _ => fun
  | [d] => { results := [.lit (.bool false)], args := [d] }
  | _ => none }
def LevelFewWrongFalsely : Prop := levelFewRow.holds Try.pinned (OpenSpec.ofChange levelFewWrong)

/-- 'weirkeep.LevelSame': WHATEVER THE INPUT: true; the input reads as it did. -/
def levelSameSpec : ChangeSpec := { name := "levelSame", fn := fun _ => fun
  | [d] => { results := [.lit (.bool true)], args := [d] }
  | _ => none }
def levelSameRow : OpenClaim := { program := "ytgbdlcbkbdddcaa", sum := "fc23c02d9eba1a97c933c3375d2b125f90c27a839967ff6fe8f20909adebcb41", func := "weirmaster/weirkeep.LevelSame", spec := "levelSame", recurses := true, apart := false }
def LevelSameSaid : Prop := levelSameRow.holds Try.pinned (OpenSpec.ofChange levelSameSpec)

/-- ITS FALSE NEIGHBOUR: 'it returns false'. Refute it at one input. -/
def levelSameWrong : ChangeSpec := { name := "levelSame", fn := fun _ => fun
  | [d] => { results := [.lit (.bool false)], args := [d] }
  | _ => none }
def LevelSameWrongFalsely : Prop := levelSameRow.holds Try.pinned (OpenSpec.ofChange levelSameWrong)

/-- 'weirkeep.CutFull': WHATEVER THE INPUT: true; the input reads as it did. -/
def cutFullSpec : ChangeSpec := { name := "cutFull", fn := fun _ => fun
  | [d] => { results := [.lit (.bool true)], args := [d] }
  | _ => none }
def cutFullRow : OpenClaim := { program := "ytgbdlcbkbdddcaa", sum := "fc23c02d9eba1a97c933c3375d2b125f90c27a839967ff6fe8f20909adebcb41", func := "weirmaster/weirkeep.CutFull", spec := "cutFull", recurses := true, apart := false }
def CutFullSaid : Prop := cutFullRow.holds Try.pinned (OpenSpec.ofChange cutFullSpec)

/-- ITS FALSE NEIGHBOUR: 'it returns false'. Refute it at one input. -/
def cutFullWrong : ChangeSpec := { name := "cutFull", fn := fun _ => fun
  | [d] => { results := [.lit (.bool false)], args := [d] }
  | _ => none }
def CutFullWrongFalsely : Prop := cutFullRow.holds Try.pinned (OpenSpec.ofChange cutFullWrong)

/-- 'weirkeep.AssignMoves': WHATEVER THE INPUT: true; the input reads as it did. -/
def assignMovesSpec : ChangeSpec := { name := "assignMoves", fn := fun _ => fun
  | [d1, d2, d3] => { results := [.lit (.bool true)], args := [d1, d2, d3] }
  | _ => none }
def assignMovesRow : OpenClaim := { program := "ytgbdlcbkbdddcaa", sum := "fc23c02d9eba1a97c933c3375d2b125f90c27a839967ff6fe8f20909adebcb41", func := "weirmaster/weirkeep.AssignMoves", spec := "assignMoves", apart := false }
def AssignMovesSaid : Prop := assignMovesRow.holds Try.pinned (OpenSpec.ofChange assignMovesSpec)

/-- ITS FALSE NEIGHBOUR: 'it returns false'. Refute it at one input. -/
def assignMovesWrong : ChangeSpec := { name := "assignMoves", fn := fun _ => fun
  | [d1, d2, d3] => { results := [.lit (.bool false)], args := [d1, d2, d3] }
  | _ => none }
def AssignMovesWrongFalsely : Prop := assignMovesRow.holds Try.pinned (OpenSpec.ofChange assignMovesWrong)

/- THE SECOND FORM. 'bulk': how many values and letters a reading holds, each counted each time it is reached (what is shared counts as often as it is met; a slice's spare places count too). A statement '..UptoSaid' is the law's where the arguments, and the package variables that the reading takes, are together of bulk at most 1048576: NARROWER than '..Said'. Prove '..Said' where nothing that the law and all that it calls make is longer than what came in: it says more and counts as full. Else prove '..UptoSaid'. A law counts once. -/
mutual
def uptoBulk {H : Type} : DataW H → Nat
  | .lit (.string bytes) => bytes.length + 1
  | .lit _ => 1
  | .nil => 1
  | .ptr d => uptoBulk d + 1
  | .slice elems spare => uptoBulkAll elems + uptoBulkAll spare + 1
  | .agg parts => uptoBulkAll parts + 1
  | .iface _ d => uptoBulk d + 1
  | .map entries => uptoBulkEntries entries + 1
  | .held _ => 1
def uptoBulkAll {H : Type} : List (DataW H) → Nat
  | [] => 0
  | d :: r => uptoBulk d + uptoBulkAll r
def uptoBulkEntries {H : Type} : List (Lit × DataW H) → Nat
  | [] => 0
  | x :: r => uptoBulkEntry x + uptoBulkEntries r
def uptoBulkEntry {H : Type} : Lit × DataW H → Nat
  | (.string bytes, d) => bytes.length + uptoBulk d + 1
  | (_, d) => uptoBulk d + 1
 end
def uptoSmall : (H : Type) → List (DataW H) → Bool := fun _ ds => decide (uptoBulkAll ds ≤ 1048576)
def OpenSpec.upto (s : _root_.Go.ChangeSpec) : _root_.Go.OpenSpec := { _root_.Go.OpenSpec.ofChange s with cond := some uptoSmall }

/-- 'weirkeep.SpanCut', WHERE WHAT IT READS IS OF BULK AT MOST 1048576: true; the input reads as it did. -/
def spanCutUptoRow : OpenClaim := { program := "ytgbdlcbkbdddcaa", sum := "fc23c02d9eba1a97c933c3375d2b125f90c27a839967ff6fe8f20909adebcb41", func := "weirmaster/weirkeep.SpanCut", spec := "spanCut", unfollowed := true, recurses := true, apart := false, narrowed := true }
def SpanCutUptoSaid : Prop := spanCutUptoRow.holds Try.pinned (OpenSpec.upto spanCutSpec)

/-- 'weirkeep.SpanRound', WHERE WHAT IT READS IS OF BULK AT MOST 1048576: true; the input reads as it did. -/
def spanRoundUptoRow : OpenClaim := { program := "ytgbdlcbkbdddcaa", sum := "fc23c02d9eba1a97c933c3375d2b125f90c27a839967ff6fe8f20909adebcb41", func := "weirmaster/weirkeep.SpanRound", spec := "spanRound", unfollowed := true, recurses := true, apart := false, narrowed := true }
def SpanRoundUptoSaid : Prop := spanRoundUptoRow.holds Try.pinned (OpenSpec.upto spanRoundSpec)

/-- 'weirkeep.SpanWide', WHERE WHAT IT READS IS OF BULK AT MOST 1048576: true; the input reads as it did. -/
def spanWideUptoRow : OpenClaim := { program := "ytgbdlcbkbdddcaa", sum := "fc23c02d9eba1a97c933c3375d2b125f90c27a839967ff6fe8f20909adebcb41", func := "weirmaster/weirkeep.SpanWide", spec := "spanWide", unfollowed := true, recurses := true, apart := false, narrowed := true }
def SpanWideUptoSaid : Prop := spanWideUptoRow.holds Try.pinned (OpenSpec.upto spanWideSpec)

/-- 'weirkeep.SpanJoins', WHERE WHAT IT READS IS OF BULK AT MOST 1048576: true; the input reads as it did. -/
def spanJoinsUptoRow : OpenClaim := { program := "ytgbdlcbkbdddcaa", sum := "fc23c02d9eba1a97c933c3375d2b125f90c27a839967ff6fe8f20909adebcb41", func := "weirmaster/weirkeep.SpanJoins", spec := "spanJoins", unfollowed := true, recurses := true, apart := false, narrowed := true }
def SpanJoinsUptoSaid : Prop := spanJoinsUptoRow.holds Try.pinned (OpenSpec.upto spanJoinsSpec)

/-- 'weirkeep.AssignDual', WHERE WHAT IT READS IS OF BULK AT MOST 1048576: true; the input reads as it did. -/
def assignDualUptoRow : OpenClaim := { program := "ytgbdlcbkbdddcaa", sum := "fc23c02d9eba1a97c933c3375d2b125f90c27a839967ff6fe8f20909adebcb41", func := "weirmaster/weirkeep.AssignDual", spec := "assignDual", recurses := true, apart := false, narrowed := true }
def AssignDualUptoSaid : Prop := assignDualUptoRow.holds Try.pinned (OpenSpec.upto assignDualSpec)

/-- 'weirkeep.PairsFew', WHERE WHAT IT READS IS OF BULK AT MOST 1048576: true; the input reads as it did. -/
def pairsFewUptoRow : OpenClaim := { program := "ytgbdlcbkbdddcaa", sum := "fc23c02d9eba1a97c933c3375d2b125f90c27a839967ff6fe8f20909adebcb41", func := "weirmaster/weirkeep.PairsFew", spec := "pairsFew", recurses := true, apart := false, narrowed := true }
def PairsFewUptoSaid : Prop := pairsFewUptoRow.holds Try.pinned (OpenSpec.upto pairsFewSpec)

/-- 'weirkeep.LeastPairs', WHERE WHAT IT READS IS OF BULK AT MOST 1048576: true; the input reads as it did. -/
def leastPairsUptoRow : OpenClaim := { program := "ytgbdlcbkbdddcaa", sum := "fc23c02d9eba1a97c933c3375d2b125f90c27a839967ff6fe8f20909adebcb41", func := "weirmaster/weirkeep.LeastPairs", spec := "leastPairs", apart := false, narrowed := true }
def LeastPairsUptoSaid : Prop := leastPairsUptoRow.holds Try.pinned (OpenSpec.upto leastPairsSpec)

/-- 'weirkeep.LeastNodes', WHERE WHAT IT READS IS OF BULK AT MOST 1048576: true; the input reads as it did. -/
def leastNodesUptoRow : OpenClaim := { program := "ytgbdlcbkbdddcaa", sum := "fc23c02d9eba1a97c933c3375d2b125f90c27a839967ff6fe8f20909adebcb41", func := "weirmaster/weirkeep.LeastNodes", spec := "leastNodes", apart := false, narrowed := true }
def LeastNodesUptoSaid : Prop := leastNodesUptoRow.holds Try.pinned (OpenSpec.upto leastNodesSpec)

/-- 'weirkeep.LevelFew', WHERE WHAT IT READS IS OF BULK AT MOST 1048576: true; the input reads as it did. -/
def levelFewUptoRow : OpenClaim := { program := "ytgbdlcbkbdddcaa", sum := "fc23c02d9eba1a97c933c3375d2b125f90c27a839967ff6fe8f20909adebcb41", func := "weirmaster/weirkeep.LevelFew", spec := "levelFew", recurses := true, apart := false, narrowed := true }
def LevelFewUptoSaid : Prop := levelFewUptoRow.holds Try.pinned (OpenSpec.upto levelFewSpec)

/-- 'weirkeep.LevelSame', WHERE WHAT IT READS IS OF BULK AT MOST 1048576: true; the input reads as it did. -/
def levelSameUptoRow : OpenClaim := { program := "ytgbdlcbkbdddcaa", sum := "fc23c02d9eba1a97c933c3375d2b125f90c27a839967ff6fe8f20909adebcb41", func := "weirmaster/weirkeep.LevelSame", spec := "levelSame", recurses := true, apart := false, narrowed := true }
def LevelSameUptoSaid : Prop := levelSameUptoRow.holds Try.pinned (OpenSpec.upto levelSameSpec)

/-- 'weirkeep.CutFull', WHERE WHAT IT READS IS OF BULK AT MOST 1048576: true; the input reads as it did. -/
def cutFullUptoRow : OpenClaim := { program := "ytgbdlcbkbdddcaa", sum := "fc23c02d9eba1a97c933c3375d2b125f90c27a839967ff6fe8f20909adebcb41", func := "weirmaster/weirkeep.CutFull", spec := "cutFull", recurses := true, apart := false, narrowed := true }
def CutFullUptoSaid : Prop := cutFullUptoRow.holds Try.pinned (OpenSpec.upto cutFullSpec)

/-- 'weirkeep.AssignMoves', WHERE WHAT IT READS IS OF BULK AT MOST 1048576: true; the input reads as it did. -/
def assignMovesUptoRow : OpenClaim := { program := "ytgbdlcbkbdddcaa", sum := "fc23c02d9eba1a97c933c3375d2b125f90c27a839967ff6fe8f20909adebcb41", func := "weirmaster/weirkeep.AssignMoves", spec := "assignMoves", apart := false, narrowed := true }
def AssignMovesUptoSaid : Prop := assignMovesUptoRow.holds Try.pinned (OpenSpec.upto assignMovesSpec)

end Rows
end Go.Proofs.Ytgbdlcbkbdddcaa
