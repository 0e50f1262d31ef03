/-
  No cell of these rows narrows 'for every input' (looked for: loops, veiled, ifaces, maps, wideKeys, modest, calm, conditions, laid).
  DERIVED. THE GIVEN ROWS OF THIS SEAT. 12 by the template 'for every input the law returns true; each argument reads behind the call as it read before'; 0 by the template 'total and deterministic' (their statements: YtdjllkoljpjohaaTotals.lean).
  GIVEN WITH THE SEED: the statements are not yours to turn. If you find one false, say at which input.
  Laid BY PROGRAM, IN A SANDBOX (cutbox-rows.mjs): the forced cells as the released guide's own fill.sh prints them over the translation 36664ef746a71c14… (all of the seat's roots in one cut). By AI agents, Wed Nov 11 2026. No macro, syntax, notation, axiom, sorry.
-/
import Derived.Test.YtdjllkoljpjohaaChecked
import GoSem.Claim
import GoSem.ClaimJoined
import GoSem.ClaimMapViews
import Derived.JoinedTies
import Derived.KernelRfl
namespace Go.Proofs.Ytdjllkoljpjohaa
/- THE CELL 'sum', in the pinned program and in every row, IS THE sha256 OF THE DUMP (.gsa) THAT YtdjllkoljpjohaaProg.lean LOADS. Nothing in Lean hashes anything: it is a label: what it is worth is what the hold of that sum in a sandbox is worth. -/
noncomputable def Try.pinned : Pinned := { name := "ytdjllkoljpjohaa", sum := "36664ef746a71c14c2174690e89b1522d2e85e51982289e67688f575a7f5f7a6", checked := Try.checked }
namespace Rows
def none {H : Type} : Left H := { results := [], args := [] }

/-- 'weirkeep.AssignMoves': WHATEVER THE INPUT: true; the input reads as it did. -/
def assignMovesSpec : ChangeSpec := { name := "assignMoves", fn := fun _ => fun
  | [d1, d2, d3] => { results := [.lit (.bool true)], args := [d1, d2, d3] }
  | _ => none }
def assignMovesRow : OpenClaim := { program := "ytdjllkoljpjohaa", sum := "36664ef746a71c14c2174690e89b1522d2e85e51982289e67688f575a7f5f7a6", func := "weirmaster/weirkeep.AssignMoves", spec := "assignMoves", apart := false }
def AssignMovesSaid : Prop := assignMovesRow.holds Try.pinned (OpenSpec.ofChange assignMovesSpec)

/-- ITS FALSE NEIGHBOUR: 'it returns false'. Refute it at one input. -/
def assignMovesWrong : ChangeSpec := { name := "assignMoves", fn := fun _ => fun
  | [d1, d2, d3] => { results := [.lit (.bool false)], args := [d1, d2, d3] }
  | _ => none }
def AssignMovesWrongFalsely : Prop := assignMovesRow.holds Try.pinned (OpenSpec.ofChange assignMovesWrong)

/-- 'weirkeep.AssignSlack': WHATEVER THE INPUT: true; the input reads as it did. -/
def assignSlackSpec : ChangeSpec := { name := "assignSlack", fn := fun _ => fun
  | [d] => { results := [.lit (.bool true)], args := [d] }
  | _ => none }
def assignSlackRow : OpenClaim := { program := "ytdjllkoljpjohaa", sum := "36664ef746a71c14c2174690e89b1522d2e85e51982289e67688f575a7f5f7a6", func := "weirmaster/weirkeep.AssignSlack", spec := "assignSlack", apart := false }
def AssignSlackSaid : Prop := assignSlackRow.holds Try.pinned (OpenSpec.ofChange assignSlackSpec)

/-- ITS FALSE NEIGHBOUR: 'it returns false'. Refute it at one input. -/
def assignSlackWrong : ChangeSpec := { name := "assignSlack", fn := fun _ => fun
  | [d] => { results := [.lit (.bool false)], args := [d] }
  | _ => none }
def AssignSlackWrongFalsely : Prop := assignSlackRow.holds Try.pinned (OpenSpec.ofChange assignSlackWrong)

/-- 'weirkeep.AssignDual': WHATEVER THE INPUT: true; the input reads as it did. -/
def assignDualSpec : ChangeSpec := { name := "assignDual", fn := fun _ => fun
  | [d1, d2, d3, d4] => { results := [.lit (.bool true)], args := [d1, d2, d3, d4] }
  | _ => none }
def assignDualRow : OpenClaim := { program := "ytdjllkoljpjohaa", sum := "36664ef746a71c14c2174690e89b1522d2e85e51982289e67688f575a7f5f7a6", func := "weirmaster/weirkeep.AssignDual", spec := "assignDual", recurses := true, apart := false }
def AssignDualSaid : Prop := assignDualRow.holds Try.pinned (OpenSpec.ofChange assignDualSpec)

/-- ITS FALSE NEIGHBOUR: 'it returns false'. Refute it at one input. -/
def assignDualWrong : ChangeSpec := { name := "assignDual", fn := fun _ => fun
  | [d1, d2, d3, d4] => { results := [.lit (.bool false)], args := [d1, d2, d3, d4] }
  | _ => none }
def AssignDualWrongFalsely : Prop := assignDualRow.holds Try.pinned (OpenSpec.ofChange assignDualWrong)

/-- 'weirkeep.StableLattice': WHATEVER THE INPUT: true; the input reads as it did. -/
def stableLatticeSpec : ChangeSpec := { name := "stableLattice", fn := fun _ => fun
  | [d1, d2, d3, d4] => { results := [.lit (.bool true)], args := [d1, d2, d3, d4] }
  | _ => none }
def stableLatticeRow : OpenClaim := { program := "ytdjllkoljpjohaa", sum := "36664ef746a71c14c2174690e89b1522d2e85e51982289e67688f575a7f5f7a6", func := "weirmaster/weirkeep.StableLattice", spec := "stableLattice", apart := false }
def StableLatticeSaid : Prop := stableLatticeRow.holds Try.pinned (OpenSpec.ofChange stableLatticeSpec)

/-- ITS FALSE NEIGHBOUR: 'it returns false'. Refute it at one input. -/
def stableLatticeWrong : ChangeSpec := { name := "stableLattice", fn := fun _ => fun
  | [d1, d2, d3, d4] => { results := [.lit (.bool false)], args := [d1, d2, d3, d4] }
  | _ => none }
def StableLatticeWrongFalsely : Prop := stableLatticeRow.holds Try.pinned (OpenSpec.ofChange stableLatticeWrong)

/-- 'weirkeep.StableBest': WHATEVER THE INPUT: true; the input reads as it did. -/
def stableBestSpec : ChangeSpec := { name := "stableBest", fn := fun _ => fun
  | [d1, d2, d3] => { results := [.lit (.bool true)], args := [d1, d2, d3] }
  | _ => none }
def stableBestRow : OpenClaim := { program := "ytdjllkoljpjohaa", sum := "36664ef746a71c14c2174690e89b1522d2e85e51982289e67688f575a7f5f7a6", func := "weirmaster/weirkeep.StableBest", spec := "stableBest", apart := false }
def StableBestSaid : Prop := stableBestRow.holds Try.pinned (OpenSpec.ofChange stableBestSpec)

/-- ITS FALSE NEIGHBOUR: 'it returns false'. Refute it at one input. -/
def stableBestWrong : ChangeSpec := { name := "stableBest", fn := fun _ => fun
  | [d1, d2, d3] => { results := [.lit (.bool false)], args := [d1, d2, d3] }
  | _ => none }
def StableBestWrongFalsely : Prop := stableBestRow.holds Try.pinned (OpenSpec.ofChange stableBestWrong)

/-- 'weirkeep.StableOther': WHATEVER THE INPUT: true; the input reads as it did. -/
def stableOtherSpec : ChangeSpec := { name := "stableOther", fn := fun _ => fun
  | [d1, d2, d3] => { results := [.lit (.bool true)], args := [d1, d2, d3] }
  | _ => none }
def stableOtherRow : OpenClaim := { program := "ytdjllkoljpjohaa", sum := "36664ef746a71c14c2174690e89b1522d2e85e51982289e67688f575a7f5f7a6", func := "weirmaster/weirkeep.StableOther", spec := "stableOther", apart := false }
def StableOtherSaid : Prop := stableOtherRow.holds Try.pinned (OpenSpec.ofChange stableOtherSpec)

/-- ITS FALSE NEIGHBOUR: 'it returns false'. Refute it at one input. -/
def stableOtherWrong : ChangeSpec := { name := "stableOther", fn := fun _ => fun
  | [d1, d2, d3] => { results := [.lit (.bool false)], args := [d1, d2, d3] }
  | _ => none }
def StableOtherWrongFalsely : Prop := stableOtherRow.holds Try.pinned (OpenSpec.ofChange stableOtherWrong)

/-- 'weirkeep.BlossomHalf': WHATEVER THE INPUT: true; the input reads as it did. -/
def blossomHalfSpec : ChangeSpec := { name := "blossomHalf", fn := fun _ => fun
  | [d] => { results := [.lit (.bool true)], args := [d] }
  | _ => none }
def blossomHalfRow : OpenClaim := { program := "ytdjllkoljpjohaa", sum := "36664ef746a71c14c2174690e89b1522d2e85e51982289e67688f575a7f5f7a6", func := "weirmaster/weirkeep.BlossomHalf", spec := "blossomHalf", apart := false }
def BlossomHalfSaid : Prop := blossomHalfRow.holds Try.pinned (OpenSpec.ofChange blossomHalfSpec)

/-- ITS FALSE NEIGHBOUR: 'it returns false'. Refute it at one input. -/
def blossomHalfWrong : ChangeSpec := { name := "blossomHalf", fn := fun _ => fun
  | [d] => { results := [.lit (.bool false)], args := [d] }
  | _ => none }
def BlossomHalfWrongFalsely : Prop := blossomHalfRow.holds Try.pinned (OpenSpec.ofChange blossomHalfWrong)

/-- 'weirkeep.BlossomBars': WHATEVER THE INPUT: true; the input reads as it did. -/
def blossomBarsSpec : ChangeSpec := { name := "blossomBars", fn := fun _ => fun
  | [d1, d2] => { results := [.lit (.bool true)], args := [d1, d2] }
  | _ => none }
def blossomBarsRow : OpenClaim := { program := "ytdjllkoljpjohaa", sum := "36664ef746a71c14c2174690e89b1522d2e85e51982289e67688f575a7f5f7a6", func := "weirmaster/weirkeep.BlossomBars", spec := "blossomBars", unfollowed := true, recurses := true, apart := false }
def BlossomBarsSaid : Prop := blossomBarsRow.holds Try.pinned (OpenSpec.ofChange blossomBarsSpec)

/-- ITS FALSE NEIGHBOUR: 'it returns false'. Refute it at one input. -/
def blossomBarsWrong : ChangeSpec := { name := "blossomBars", fn := fun _ => fun
  | [d1, d2] => { results := [.lit (.bool false)], args := [d1, d2] }
  | _ => none }
def BlossomBarsWrongFalsely : Prop := blossomBarsRow.holds Try.pinned (OpenSpec.ofChange blossomBarsWrong)

/-- 'weirkeep.LeastPairs': WHATEVER THE INPUT: true; the input reads as it did. -/
def leastPairsSpec : ChangeSpec := { name := "leastPairs", fn := fun _ => fun
  | [d] => { results := [.lit (.bool true)], args := [d] }
  | _ => none }
def leastPairsRow : OpenClaim := { program := "ytdjllkoljpjohaa", sum := "36664ef746a71c14c2174690e89b1522d2e85e51982289e67688f575a7f5f7a6", func := "weirmaster/weirkeep.LeastPairs", spec := "leastPairs", apart := false }
def LeastPairsSaid : Prop := leastPairsRow.holds Try.pinned (OpenSpec.ofChange leastPairsSpec)

/-- ITS FALSE NEIGHBOUR: 'it returns false'. Refute it at one input. -/
def leastPairsWrong : ChangeSpec := { name := "leastPairs", fn := fun _ => fun
  | [d] => { results := [.lit (.bool false)], args := [d] }
  | _ => none }
def LeastPairsWrongFalsely : Prop := leastPairsRow.holds Try.pinned (OpenSpec.ofChange leastPairsWrong)

/-- 'weirkeep.PairsThree': WHATEVER THE INPUT: true; the input reads as it did. -/
def pairsThreeSpec : ChangeSpec := { name := "pairsThree", fn := fun _ => fun
  | [d1, d2, d3, d4] => { results := [.lit (.bool true)], args := [d1, d2, d3, d4] }
  | _ => none }
def pairsThreeRow : OpenClaim := { program := "ytdjllkoljpjohaa", sum := "36664ef746a71c14c2174690e89b1522d2e85e51982289e67688f575a7f5f7a6", func := "weirmaster/weirkeep.PairsThree", spec := "pairsThree", apart := false }
def PairsThreeSaid : Prop := pairsThreeRow.holds Try.pinned (OpenSpec.ofChange pairsThreeSpec)

/-- ITS FALSE NEIGHBOUR: 'it returns false'. Refute it at one input. -/
def pairsThreeWrong : ChangeSpec := { name := "pairsThree", fn := fun _ => fun
  | [d1, d2, d3, d4] => { results := [.lit (.bool false)], args := [d1, d2, d3, d4] }
  | _ => none }
def PairsThreeWrongFalsely : Prop := pairsThreeRow.holds Try.pinned (OpenSpec.ofChange pairsThreeWrong)

/-- 'weirkeep.PairsFew': WHATEVER THE INPUT: true; the input reads as it did. -/
def pairsFewSpec : ChangeSpec := { name := "pairsFew", fn := fun _ => fun
  | [d] => { results := [.lit (.bool true)], args := [d] }
  | _ => none }
def pairsFewRow : OpenClaim := { program := "ytdjllkoljpjohaa", sum := "36664ef746a71c14c2174690e89b1522d2e85e51982289e67688f575a7f5f7a6", func := "weirmaster/weirkeep.PairsFew", spec := "pairsFew", recurses := true, apart := false }
def PairsFewSaid : Prop := pairsFewRow.holds Try.pinned (OpenSpec.ofChange pairsFewSpec)

/-- ITS FALSE NEIGHBOUR: 'it returns false'. Refute it at one input. -/
def pairsFewWrong : ChangeSpec := { name := "pairsFew", fn := fun _ => fun
  | [d] => { results := [.lit (.bool false)], args := [d] }
  | _ => none }
def PairsFewWrongFalsely : Prop := pairsFewRow.holds Try.pinned (OpenSpec.ofChange pairsFewWrong)

/-- 'weirkeep.CloseGrows': WHATEVER THE INPUT: true; the input reads as it did. -/
def closeGrowsSpec : ChangeSpec := { name := "closeGrows", fn := fun _ => fun
  | [d1, d2, d3, d4] => { results := [.lit (.bool true)], args := [d1, d2, d3, d4] }
  | _ => none }
def closeGrowsRow : OpenClaim := { program := "ytdjllkoljpjohaa", sum := "36664ef746a71c14c2174690e89b1522d2e85e51982289e67688f575a7f5f7a6", func := "weirmaster/weirkeep.CloseGrows", spec := "closeGrows", apart := false }
def CloseGrowsSaid : Prop := closeGrowsRow.holds Try.pinned (OpenSpec.ofChange closeGrowsSpec)

/-- ITS FALSE NEIGHBOUR: 'it returns false'. Refute it at one input. -/
def closeGrowsWrong : ChangeSpec := { name := "closeGrows", fn := fun _ => fun
  | [d1, d2, d3, d4] => { results := [.lit (.bool false)], args := [d1, d2, d3, d4] }
  | _ => none }
def CloseGrowsWrongFalsely : Prop := closeGrowsRow.holds Try.pinned (OpenSpec.ofChange closeGrowsWrong)

/- THE SECOND FORM. 'bulk': how many values and letters a reading holds, each counted each time it is reached (what is shared counts as often as it is met; a slice's spare places count too). A statement '..UptoSaid' is the law's where the arguments, and the package variables that the reading takes, are together of bulk at most 1048576: NARROWER than '..Said'. Prove '..Said' where nothing that the law and all that it calls make is longer than what came in: it says more and counts as full. Else prove '..UptoSaid'. A law counts once. -/
mutual
def uptoBulk {H : Type} : DataW H → Nat
  | .lit (.string bytes) => bytes.length + 1
  | .lit _ => 1
  | .nil => 1
  | .ptr d => uptoBulk d + 1
  | .slice elems spare => uptoBulkAll elems + uptoBulkAll spare + 1
  | .agg parts => uptoBulkAll parts + 1
  | .iface _ d => uptoBulk d + 1
  | .map entries => uptoBulkEntries entries + 1
  | .held _ => 1
def uptoBulkAll {H : Type} : List (DataW H) → Nat
  | [] => 0
  | d :: r => uptoBulk d + uptoBulkAll r
def uptoBulkEntries {H : Type} : List (Lit × DataW H) → Nat
  | [] => 0
  | x :: r => uptoBulkEntry x + uptoBulkEntries r
def uptoBulkEntry {H : Type} : Lit × DataW H → Nat
  | (.string bytes, d) => bytes.length + uptoBulk d + 1
  | (_, d) => uptoBulk d + 1
 end
def uptoSmall : (H : Type) → List (DataW H) → Bool := fun _ ds => decide (uptoBulkAll ds ≤ 1048576)
def OpenSpec.upto (s : _root_.Go.ChangeSpec) : _root_.Go.OpenSpec := { _root_.Go.OpenSpec.ofChange s with cond := some uptoSmall }

/-- 'weirkeep.AssignMoves', WHERE WHAT IT READS IS OF BULK AT MOST 1048576: true; the input reads as it did. -/
def assignMovesUptoRow : OpenClaim := { program := "ytdjllkoljpjohaa", sum := "36664ef746a71c14c2174690e89b1522d2e85e51982289e67688f575a7f5f7a6", func := "weirmaster/weirkeep.AssignMoves", spec := "assignMoves", apart := false, narrowed := true }
def AssignMovesUptoSaid : Prop := assignMovesUptoRow.holds Try.pinned (OpenSpec.upto assignMovesSpec)

/-- 'weirkeep.AssignSlack', WHERE WHAT IT READS IS OF BULK AT MOST 1048576: true; the input reads as it did. -/
def assignSlackUptoRow : OpenClaim := { program := "ytdjllkoljpjohaa", sum := "36664ef746a71c14c2174690e89b1522d2e85e51982289e67688f575a7f5f7a6", func := "weirmaster/weirkeep.AssignSlack", spec := "assignSlack", apart := false, narrowed := true }
def AssignSlackUptoSaid : Prop := assignSlackUptoRow.holds Try.pinned (OpenSpec.upto assignSlackSpec)

/-- 'weirkeep.AssignDual', WHERE WHAT IT READS IS OF BULK AT MOST 1048576: true; the input reads as it did. -/
def assignDualUptoRow : OpenClaim := { program := "ytdjllkoljpjohaa", sum := "36664ef746a71c14c2174690e89b1522d2e85e51982289e67688f575a7f5f7a6", func := "weirmaster/weirkeep.AssignDual", spec := "assignDual", recurses := true, apart := false, narrowed := true }
def AssignDualUptoSaid : Prop := assignDualUptoRow.holds Try.pinned (OpenSpec.upto assignDualSpec)

/-- 'weirkeep.StableLattice', WHERE WHAT IT READS IS OF BULK AT MOST 1048576: true; the input reads as it did. -/
def stableLatticeUptoRow : OpenClaim := { program := "ytdjllkoljpjohaa", sum := "36664ef746a71c14c2174690e89b1522d2e85e51982289e67688f575a7f5f7a6", func := "weirmaster/weirkeep.StableLattice", spec := "stableLattice", apart := false, narrowed := true }
def StableLatticeUptoSaid : Prop := stableLatticeUptoRow.holds Try.pinned (OpenSpec.upto stableLatticeSpec)

/-- 'weirkeep.StableBest', WHERE WHAT IT READS IS OF BULK AT MOST 1048576: true; the input reads as it did. -/
def stableBestUptoRow : OpenClaim := { program := "ytdjllkoljpjohaa", sum := "36664ef746a71c14c2174690e89b1522d2e85e51982289e67688f575a7f5f7a6", func := "weirmaster/weirkeep.StableBest", spec := "stableBest", apart := false, narrowed := true }
def StableBestUptoSaid : Prop := stableBestUptoRow.holds Try.pinned (OpenSpec.upto stableBestSpec)

/-- 'weirkeep.StableOther', WHERE WHAT IT READS IS OF BULK AT MOST 1048576: true; the input reads as it did. -/
def stableOtherUptoRow : OpenClaim := { program := "ytdjllkoljpjohaa", sum := "36664ef746a71c14c2174690e89b1522d2e85e51982289e67688f575a7f5f7a6", func := "weirmaster/weirkeep.StableOther", spec := "stableOther", apart := false, narrowed := true }
def StableOtherUptoSaid : Prop := stableOtherUptoRow.holds Try.pinned (OpenSpec.upto stableOtherSpec)

/-- 'weirkeep.BlossomHalf', WHERE WHAT IT READS IS OF BULK AT MOST 1048576: true; the input reads as it did. -/
def blossomHalfUptoRow : OpenClaim := { program := "ytdjllkoljpjohaa", sum := "36664ef746a71c14c2174690e89b1522d2e85e51982289e67688f575a7f5f7a6", func := "weirmaster/weirkeep.BlossomHalf", spec := "blossomHalf", apart := false, narrowed := true }
def BlossomHalfUptoSaid : Prop := blossomHalfUptoRow.holds Try.pinned (OpenSpec.upto blossomHalfSpec)

/-- 'weirkeep.BlossomBars', WHERE WHAT IT READS IS OF BULK AT MOST 1048576: true; the input reads as it did. -/
def blossomBarsUptoRow : OpenClaim := { program := "ytdjllkoljpjohaa", sum := "36664ef746a71c14c2174690e89b1522d2e85e51982289e67688f575a7f5f7a6", func := "weirmaster/weirkeep.BlossomBars", spec := "blossomBars", unfollowed := true, recurses := true, apart := false, narrowed := true }
def BlossomBarsUptoSaid : Prop := blossomBarsUptoRow.holds Try.pinned (OpenSpec.upto blossomBarsSpec)

/-- 'weirkeep.LeastPairs', WHERE WHAT IT READS IS OF BULK AT MOST 1048576: true; the input reads as it did. -/
def leastPairsUptoRow : OpenClaim := { program := "ytdjllkoljpjohaa", sum := "36664ef746a71c14c2174690e89b1522d2e85e51982289e67688f575a7f5f7a6", func := "weirmaster/weirkeep.LeastPairs", spec := "leastPairs", apart := false, narrowed := true }
def LeastPairsUptoSaid : Prop := leastPairsUptoRow.holds Try.pinned (OpenSpec.upto leastPairsSpec)

/-- 'weirkeep.PairsThree', WHERE WHAT IT READS IS OF BULK AT MOST 1048576: true; the input reads as it did. -/
def pairsThreeUptoRow : OpenClaim := { program := "ytdjllkoljpjohaa", sum := "36664ef746a71c14c2174690e89b1522d2e85e51982289e67688f575a7f5f7a6", func := "weirmaster/weirkeep.PairsThree", spec := "pairsThree", apart := false, narrowed := true }
def PairsThreeUptoSaid : Prop := pairsThreeUptoRow.holds Try.pinned (OpenSpec.upto pairsThreeSpec)

/-- 'weirkeep.PairsFew', WHERE WHAT IT READS IS OF BULK AT MOST 1048576: true; the input reads as it did. -/
def pairsFewUptoRow : OpenClaim := { program := "ytdjllkoljpjohaa", sum := "36664ef746a71c14c2174690e89b1522d2e85e51982289e67688f575a7f5f7a6", func := "weirmaster/weirkeep.PairsFew", spec := "pairsFew", recurses := true, apart := false, narrowed := true }
def PairsFewUptoSaid : Prop := pairsFewUptoRow.holds Try.pinned (OpenSpec.upto pairsFewSpec)

/-- 'weirkeep.CloseGrows', WHERE WHAT IT READS IS OF BULK AT MOST 1048576: true; the input reads as it did. -/
def closeGrowsUptoRow : OpenClaim := { program := "ytdjllkoljpjohaa", sum := "36664ef746a71c14c2174690e89b1522d2e85e51982289e67688f575a7f5f7a6", func := "weirmaster/weirkeep.CloseGrows", spec := "closeGrows", apart := false, narrowed := true }
def CloseGrowsUptoSaid : Prop := closeGrowsUptoRow.holds Try.pinned (OpenSpec.upto closeGrowsSpec)

end Rows
end Go.Proofs.Ytdjllkoljpjohaa
