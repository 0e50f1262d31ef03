/-
  No cell of these rows narrows 'for every input' (looked for: loops, veiled, ifaces, maps, wideKeys, modest, calm, conditions, laid).
  DERIVED. THE GIVEN ROWS OF THIS SEAT. 12 by the template 'for every input the law returns true; each argument reads behind the call as it read before'; 0 by the template 'total and deterministic' (their statements: YtblhoelmodbifaaTotals.lean).
  GIVEN WITH THE SEED: the statements are not yours to turn. If you find one false, say at which input.
  Laid BY PROGRAM, IN A SANDBOX (cutbox-rows.mjs): the forced cells as the released guide's own fill.sh prints them over the translation 5d4dd24316b817f5… (all of the seat's roots in one cut). By AI agents, Wed Nov 11 2026. No macro, syntax, notation, axiom, sorry.
-/
import Derived.Test.YtblhoelmodbifaaChecked
import GoSem.Claim
import GoSem.ClaimJoined
import GoSem.ClaimMapViews
import Derived.JoinedTies
import Derived.KernelRfl
namespace Go.Proofs.Ytblhoelmodbifaa
/- THE CELL 'sum', in the pinned program and in every row, IS THE sha256 OF THE DUMP (.gsa) THAT YtblhoelmodbifaaProg.lean LOADS. Nothing in Lean hashes anything: it is a label: what it is worth is what the hold of that sum in a sandbox is worth. -/
noncomputable def Try.pinned : Pinned := { name := "ytblhoelmodbifaa", sum := "5d4dd24316b817f5ca2333052d7726d77750727cda890bca54e6d79faf0cd541", checked := Try.checked }
namespace Rows
def none {H : Type} : Left H := { results := [], args := [] }

/-- 'weirkeep.DetRows': WHATEVER THE INPUT: true; the input reads as it did. -/
def detRowsSpec : ChangeSpec := { name := "detRows", fn := fun _ => fun
  | [d1, d2, d3] => { results := [.lit (.bool true)], args := [d1, d2, d3] }
  | _ => none }
def detRowsRow : OpenClaim := { program := "ytblhoelmodbifaa", sum := "5d4dd24316b817f5ca2333052d7726d77750727cda890bca54e6d79faf0cd541", func := "weirmaster/weirkeep.DetRows", spec := "detRows", apart := false }
def DetRowsSaid : Prop := detRowsRow.holds Try.pinned (OpenSpec.ofChange detRowsSpec)

/-- ITS FALSE NEIGHBOUR: 'it returns false'. Refute it at one input. -/
def detRowsWrong : ChangeSpec := { name := "detRows", fn := fun _ => fun
  | [d1, d2, d3] => { results := [.lit (.bool false)], args := [d1, d2, d3] }
  | _ => none }
def DetRowsWrongFalsely : Prop := detRowsRow.holds Try.pinned (OpenSpec.ofChange detRowsWrong)

/-- 'weirkeep.TreeTimes': WHATEVER THE INPUT: true; the input reads as it did. -/
def treeTimesSpec : ChangeSpec := { name := "treeTimes", fn := fun _ => fun
  | [d] => { results := [.lit (.bool true)], args := [d] }
  | _ => none }
def treeTimesRow : OpenClaim := { program := "ytblhoelmodbifaa", sum := "5d4dd24316b817f5ca2333052d7726d77750727cda890bca54e6d79faf0cd541", func := "weirmaster/weirkeep.TreeTimes", spec := "treeTimes", apart := false }
def TreeTimesSaid : Prop := treeTimesRow.holds Try.pinned (OpenSpec.ofChange treeTimesSpec)

/-- ITS FALSE NEIGHBOUR: 'it returns false'. Refute it at one input. -/
def treeTimesWrong : ChangeSpec := { name := "treeTimes", fn := fun _ => fun
  | [d] => { results := [.lit (.bool false)], args := [d] }
  | _ => none }
def TreeTimesWrongFalsely : Prop := treeTimesRow.holds Try.pinned (OpenSpec.ofChange treeTimesWrong)

/-- 'weirkeep.TreeCayley': WHATEVER THE INPUT: true; the input reads as it did. -/
def treeCayleySpec : ChangeSpec := { name := "treeCayley", fn := fun _ => fun
  | [d] => { results := [.lit (.bool true)], args := [d] }
  | _ => none }
def treeCayleyRow : OpenClaim := { program := "ytblhoelmodbifaa", sum := "5d4dd24316b817f5ca2333052d7726d77750727cda890bca54e6d79faf0cd541", func := "weirmaster/weirkeep.TreeCayley", spec := "treeCayley", unfollowed := true, recurses := true, apart := false }
def TreeCayleySaid : Prop := treeCayleyRow.holds Try.pinned (OpenSpec.ofChange treeCayleySpec)

/-- ITS FALSE NEIGHBOUR: 'it returns false'. Refute it at one input. -/
def treeCayleyWrong : ChangeSpec := { name := "treeCayley", fn := fun _ => fun
  | [d] => { results := [.lit (.bool false)], args := [d] }
  | _ => none }
def TreeCayleyWrongFalsely : Prop := treeCayleyRow.holds Try.pinned (OpenSpec.ofChange treeCayleyWrong)

/-- 'weirkeep.TreeLess': WHATEVER THE INPUT: true; the input reads as it did. -/
def treeLessSpec : ChangeSpec := { name := "treeLess", fn := fun _ => fun
  | [d1, d2] => { results := [.lit (.bool true)], args := [d1, d2] }
  | _ => none }
def treeLessRow : OpenClaim := { program := "ytblhoelmodbifaa", sum := "5d4dd24316b817f5ca2333052d7726d77750727cda890bca54e6d79faf0cd541", func := "weirmaster/weirkeep.TreeLess", spec := "treeLess", unfollowed := true, recurses := true, apart := false }
def TreeLessSaid : Prop := treeLessRow.holds Try.pinned (OpenSpec.ofChange treeLessSpec)

/-- ITS FALSE NEIGHBOUR: 'it returns false'. Refute it at one input. -/
def treeLessWrong : ChangeSpec := { name := "treeLess", fn := fun _ => fun
  | [d1, d2] => { results := [.lit (.bool false)], args := [d1, d2] }
  | _ => none }
def TreeLessWrongFalsely : Prop := treeLessRow.holds Try.pinned (OpenSpec.ofChange treeLessWrong)

/-- 'weirkeep.TreeBack': WHATEVER THE INPUT: true; the input reads as it did. -/
def treeBackSpec : ChangeSpec := { name := "treeBack", fn := fun _ => fun
  | [d] => { results := [.lit (.bool true)], args := [d] }
  | _ => none }
def treeBackRow : OpenClaim := { program := "ytblhoelmodbifaa", sum := "5d4dd24316b817f5ca2333052d7726d77750727cda890bca54e6d79faf0cd541", func := "weirmaster/weirkeep.TreeBack", spec := "treeBack", unfollowed := true, recurses := true, apart := false }
def TreeBackSaid : Prop := treeBackRow.holds Try.pinned (OpenSpec.ofChange treeBackSpec)

/-- ITS FALSE NEIGHBOUR: 'it returns false'. Refute it at one input. -/
def treeBackWrong : ChangeSpec := { name := "treeBack", fn := fun _ => fun
  | [d] => { results := [.lit (.bool false)], args := [d] }
  | _ => none }
def TreeBackWrongFalsely : Prop := treeBackRow.holds Try.pinned (OpenSpec.ofChange treeBackWrong)

/-- 'weirkeep.EulerEven': WHATEVER THE INPUT: true; the input reads as it did. -/
def eulerEvenSpec : ChangeSpec := { name := "eulerEven", fn := fun _ => fun
  | [d] => { results := [.lit (.bool true)], args := [d] }
  | _ => none }
def eulerEvenRow : OpenClaim := { program := "ytblhoelmodbifaa", sum := "5d4dd24316b817f5ca2333052d7726d77750727cda890bca54e6d79faf0cd541", func := "weirmaster/weirkeep.EulerEven", spec := "eulerEven", unfollowed := true, recurses := true, apart := false }
def EulerEvenSaid : Prop := eulerEvenRow.holds Try.pinned (OpenSpec.ofChange eulerEvenSpec)

/-- ITS FALSE NEIGHBOUR: 'it returns false'. Refute it at one input. -/
def eulerEvenWrong : ChangeSpec := { name := "eulerEven", fn := fun _ => fun
  | [d] => { results := [.lit (.bool false)], args := [d] }
  | _ => none }
def EulerEvenWrongFalsely : Prop := eulerEvenRow.holds Try.pinned (OpenSpec.ofChange eulerEvenWrong)

/-- 'weirkeep.EulerClosed': WHATEVER THE INPUT: true; the input reads as it did. -/
def eulerClosedSpec : ChangeSpec := { name := "eulerClosed", fn := fun _ => fun
  | [d] => { results := [.lit (.bool true)], args := [d] }
  | _ => none }
def eulerClosedRow : OpenClaim := { program := "ytblhoelmodbifaa", sum := "5d4dd24316b817f5ca2333052d7726d77750727cda890bca54e6d79faf0cd541", func := "weirmaster/weirkeep.EulerClosed", spec := "eulerClosed", unfollowed := true, recurses := true, apart := false }
def EulerClosedSaid : Prop := eulerClosedRow.holds Try.pinned (OpenSpec.ofChange eulerClosedSpec)

/-- ITS FALSE NEIGHBOUR: 'it returns false'. Refute it at one input. -/
def eulerClosedWrong : ChangeSpec := { name := "eulerClosed", fn := fun _ => fun
  | [d] => { results := [.lit (.bool false)], args := [d] }
  | _ => none }
def EulerClosedWrongFalsely : Prop := eulerClosedRow.holds Try.pinned (OpenSpec.ofChange eulerClosedWrong)

/-- 'weirkeep.EulerTurned': WHATEVER THE INPUT: true; the input reads as it did. -/
def eulerTurnedSpec : ChangeSpec := { name := "eulerTurned", fn := fun _ => fun
  | [d] => { results := [.lit (.bool true)], args := [d] }
  | _ => none }
def eulerTurnedRow : OpenClaim := { program := "ytblhoelmodbifaa", sum := "5d4dd24316b817f5ca2333052d7726d77750727cda890bca54e6d79faf0cd541", func := "weirmaster/weirkeep.EulerTurned", spec := "eulerTurned", unfollowed := true, recurses := true, apart := false }
def EulerTurnedSaid : Prop := eulerTurnedRow.holds Try.pinned (OpenSpec.ofChange eulerTurnedSpec)

/-- ITS FALSE NEIGHBOUR: 'it returns false'. Refute it at one input. -/
def eulerTurnedWrong : ChangeSpec := { name := "eulerTurned", fn := fun _ => fun
  | [d] => { results := [.lit (.bool false)], args := [d] }
  | _ => none }
def EulerTurnedWrongFalsely : Prop := eulerTurnedRow.holds Try.pinned (OpenSpec.ofChange eulerTurnedWrong)

/-- 'weirkeep.ColourLess': WHATEVER THE INPUT: true; the input reads as it did. -/
def colourLessSpec : ChangeSpec := { name := "colourLess", fn := fun _ => fun
  | [d1, d2] => { results := [.lit (.bool true)], args := [d1, d2] }
  | _ => none }
def colourLessRow : OpenClaim := { program := "ytblhoelmodbifaa", sum := "5d4dd24316b817f5ca2333052d7726d77750727cda890bca54e6d79faf0cd541", func := "weirmaster/weirkeep.ColourLess", spec := "colourLess", unfollowed := true, recurses := true, apart := false }
def ColourLessSaid : Prop := colourLessRow.holds Try.pinned (OpenSpec.ofChange colourLessSpec)

/-- ITS FALSE NEIGHBOUR: 'it returns false'. Refute it at one input. -/
def colourLessWrong : ChangeSpec := { name := "colourLess", fn := fun _ => fun
  | [d1, d2] => { results := [.lit (.bool false)], args := [d1, d2] }
  | _ => none }
def ColourLessWrongFalsely : Prop := colourLessRow.holds Try.pinned (OpenSpec.ofChange colourLessWrong)

/-- 'weirkeep.ColourTree': WHATEVER THE INPUT: true; the input reads as it did. -/
def colourTreeSpec : ChangeSpec := { name := "colourTree", fn := fun _ => fun
  | [d1, d2] => { results := [.lit (.bool true)], args := [d1, d2] }
  | _ => none }
def colourTreeRow : OpenClaim := { program := "ytblhoelmodbifaa", sum := "5d4dd24316b817f5ca2333052d7726d77750727cda890bca54e6d79faf0cd541", func := "weirmaster/weirkeep.ColourTree", spec := "colourTree", unfollowed := true, recurses := true, apart := false }
def ColourTreeSaid : Prop := colourTreeRow.holds Try.pinned (OpenSpec.ofChange colourTreeSpec)

/-- ITS FALSE NEIGHBOUR: 'it returns false'. Refute it at one input. -/
def colourTreeWrong : ChangeSpec := { name := "colourTree", fn := fun _ => fun
  | [d1, d2] => { results := [.lit (.bool false)], args := [d1, d2] }
  | _ => none }
def ColourTreeWrongFalsely : Prop := colourTreeRow.holds Try.pinned (OpenSpec.ofChange colourTreeWrong)

/-- 'weirkeep.ColourTwo': WHATEVER THE INPUT: true; the input reads as it did. -/
def colourTwoSpec : ChangeSpec := { name := "colourTwo", fn := fun _ => fun
  | [d1, d2] => { results := [.lit (.bool true)], args := [d1, d2] }
  | _ => none }
def colourTwoRow : OpenClaim := { program := "ytblhoelmodbifaa", sum := "5d4dd24316b817f5ca2333052d7726d77750727cda890bca54e6d79faf0cd541", func := "weirmaster/weirkeep.ColourTwo", spec := "colourTwo", unfollowed := true, recurses := true, apart := false }
def ColourTwoSaid : Prop := colourTwoRow.holds Try.pinned (OpenSpec.ofChange colourTwoSpec)

/-- ITS FALSE NEIGHBOUR: 'it returns false'. Refute it at one input. -/
def colourTwoWrong : ChangeSpec := { name := "colourTwo", fn := fun _ => fun
  | [d1, d2] => { results := [.lit (.bool false)], args := [d1, d2] }
  | _ => none }
def ColourTwoWrongFalsely : Prop := colourTwoRow.holds Try.pinned (OpenSpec.ofChange colourTwoWrong)

/-- 'weirkeep.ColourSides': WHATEVER THE INPUT: true; the input reads as it did. -/
def colourSidesSpec : ChangeSpec := { name := "colourSides", fn := fun _ => fun
  | [d] => { results := [.lit (.bool true)], args := [d] }
  | _ => none }
def colourSidesRow : OpenClaim := { program := "ytblhoelmodbifaa", sum := "5d4dd24316b817f5ca2333052d7726d77750727cda890bca54e6d79faf0cd541", func := "weirmaster/weirkeep.ColourSides", spec := "colourSides", unfollowed := true, recurses := true, apart := false }
def ColourSidesSaid : Prop := colourSidesRow.holds Try.pinned (OpenSpec.ofChange colourSidesSpec)

/-- ITS FALSE NEIGHBOUR: 'it returns false'. Refute it at one input. -/
def colourSidesWrong : ChangeSpec := { name := "colourSides", fn := fun _ => fun
  | [d] => { results := [.lit (.bool false)], args := [d] }
  | _ => none }
def ColourSidesWrongFalsely : Prop := colourSidesRow.holds Try.pinned (OpenSpec.ofChange colourSidesWrong)

/- THE SECOND FORM. 'bulk': how many values and letters a reading holds, each counted each time it is reached (what is shared counts as often as it is met; a slice's spare places count too). A statement '..UptoSaid' is the law's where the arguments, and the package variables that the reading takes, are together of bulk at most 1048576: NARROWER than '..Said'. Prove '..Said' where nothing that the law and all that it calls make is longer than what came in: it says more and counts as full. Else prove '..UptoSaid'. A law counts once. -/
mutual
def uptoBulk {H : Type} : DataW H → Nat
  | .lit (.string bytes) => bytes.length + 1
  | .lit _ => 1
  | .nil => 1
  | .ptr d => uptoBulk d + 1
  | .slice elems spare => uptoBulkAll elems + uptoBulkAll spare + 1
  | .agg parts => uptoBulkAll parts + 1
  | .iface _ d => uptoBulk d + 1
  | .map entries => uptoBulkEntries entries + 1
  | .held _ => 1
def uptoBulkAll {H : Type} : List (DataW H) → Nat
  | [] => 0
  | d :: r => uptoBulk d + uptoBulkAll r
def uptoBulkEntries {H : Type} : List (Lit × DataW H) → Nat
  | [] => 0
  | x :: r => uptoBulkEntry x + uptoBulkEntries r
def uptoBulkEntry {H : Type} : Lit × DataW H → Nat
  | (.string bytes, d) => bytes.length + uptoBulk d + 1
  | (_, d) => uptoBulk d + 1
 end
def uptoSmall : (H : Type) → List (DataW H) → Bool := fun _ ds => decide (uptoBulkAll ds ≤ 1048576)
def OpenSpec.upto (s : _root_.Go.ChangeSpec) : _root_.Go.OpenSpec := { _root_.Go.OpenSpec.ofChange s with cond := some uptoSmall }

/-- 'weirkeep.DetRows', WHERE WHAT IT READS IS OF BULK AT MOST 1048576: true; the input reads as it did. -/
def detRowsUptoRow : OpenClaim := { program := "ytblhoelmodbifaa", sum := "5d4dd24316b817f5ca2333052d7726d77750727cda890bca54e6d79faf0cd541", func := "weirmaster/weirkeep.DetRows", spec := "detRows", apart := false, narrowed := true }
def DetRowsUptoSaid : Prop := detRowsUptoRow.holds Try.pinned (OpenSpec.upto detRowsSpec)

/-- 'weirkeep.TreeTimes', WHERE WHAT IT READS IS OF BULK AT MOST 1048576: true; the input reads as it did. -/
def treeTimesUptoRow : OpenClaim := { program := "ytblhoelmodbifaa", sum := "5d4dd24316b817f5ca2333052d7726d77750727cda890bca54e6d79faf0cd541", func := "weirmaster/weirkeep.TreeTimes", spec := "treeTimes", apart := false, narrowed := true }
def TreeTimesUptoSaid : Prop := treeTimesUptoRow.holds Try.pinned (OpenSpec.upto treeTimesSpec)

/-- 'weirkeep.TreeCayley', WHERE WHAT IT READS IS OF BULK AT MOST 1048576: true; the input reads as it did. -/
def treeCayleyUptoRow : OpenClaim := { program := "ytblhoelmodbifaa", sum := "5d4dd24316b817f5ca2333052d7726d77750727cda890bca54e6d79faf0cd541", func := "weirmaster/weirkeep.TreeCayley", spec := "treeCayley", unfollowed := true, recurses := true, apart := false, narrowed := true }
def TreeCayleyUptoSaid : Prop := treeCayleyUptoRow.holds Try.pinned (OpenSpec.upto treeCayleySpec)

/-- 'weirkeep.TreeLess', WHERE WHAT IT READS IS OF BULK AT MOST 1048576: true; the input reads as it did. -/
def treeLessUptoRow : OpenClaim := { program := "ytblhoelmodbifaa", sum := "5d4dd24316b817f5ca2333052d7726d77750727cda890bca54e6d79faf0cd541", func := "weirmaster/weirkeep.TreeLess", spec := "treeLess", unfollowed := true, recurses := true, apart := false, narrowed := true }
def TreeLessUptoSaid : Prop := treeLessUptoRow.holds Try.pinned (OpenSpec.upto treeLessSpec)

/-- 'weirkeep.TreeBack', WHERE WHAT IT READS IS OF BULK AT MOST 1048576: true; the input reads as it did. -/
def treeBackUptoRow : OpenClaim := { program := "ytblhoelmodbifaa", sum := "5d4dd24316b817f5ca2333052d7726d77750727cda890bca54e6d79faf0cd541", func := "weirmaster/weirkeep.TreeBack", spec := "treeBack", unfollowed := true, recurses := true, apart := false, narrowed := true }
def TreeBackUptoSaid : Prop := treeBackUptoRow.holds Try.pinned (OpenSpec.upto treeBackSpec)

/-- 'weirkeep.EulerEven', WHERE WHAT IT READS IS OF BULK AT MOST 1048576: true; the input reads as it did. -/
def eulerEvenUptoRow : OpenClaim := { program := "ytblhoelmodbifaa", sum := "5d4dd24316b817f5ca2333052d7726d77750727cda890bca54e6d79faf0cd541", func := "weirmaster/weirkeep.EulerEven", spec := "eulerEven", unfollowed := true, recurses := true, apart := false, narrowed := true }
def EulerEvenUptoSaid : Prop := eulerEvenUptoRow.holds Try.pinned (OpenSpec.upto eulerEvenSpec)

/-- 'weirkeep.EulerClosed', WHERE WHAT IT READS IS OF BULK AT MOST 1048576: true; the input reads as it did. -/
def eulerClosedUptoRow : OpenClaim := { program := "ytblhoelmodbifaa", sum := "5d4dd24316b817f5ca2333052d7726d77750727cda890bca54e6d79faf0cd541", func := "weirmaster/weirkeep.EulerClosed", spec := "eulerClosed", unfollowed := true, recurses := true, apart := false, narrowed := true }
def EulerClosedUptoSaid : Prop := eulerClosedUptoRow.holds Try.pinned (OpenSpec.upto eulerClosedSpec)

/-- 'weirkeep.EulerTurned', WHERE WHAT IT READS IS OF BULK AT MOST 1048576: true; the input reads as it did. -/
def eulerTurnedUptoRow : OpenClaim := { program := "ytblhoelmodbifaa", sum := "5d4dd24316b817f5ca2333052d7726d77750727cda890bca54e6d79faf0cd541", func := "weirmaster/weirkeep.EulerTurned", spec := "eulerTurned", unfollowed := true, recurses := true, apart := false, narrowed := true }
def EulerTurnedUptoSaid : Prop := eulerTurnedUptoRow.holds Try.pinned (OpenSpec.upto eulerTurnedSpec)

/-- 'weirkeep.ColourLess', WHERE WHAT IT READS IS OF BULK AT MOST 1048576: true; the input reads as it did. -/
def colourLessUptoRow : OpenClaim := { program := "ytblhoelmodbifaa", sum := "5d4dd24316b817f5ca2333052d7726d77750727cda890bca54e6d79faf0cd541", func := "weirmaster/weirkeep.ColourLess", spec := "colourLess", unfollowed := true, recurses := true, apart := false, narrowed := true }
def ColourLessUptoSaid : Prop := colourLessUptoRow.holds Try.pinned (OpenSpec.upto colourLessSpec)

/-- 'weirkeep.ColourTree', WHERE WHAT IT READS IS OF BULK AT MOST 1048576: true; the input reads as it did. -/
def colourTreeUptoRow : OpenClaim := { program := "ytblhoelmodbifaa", sum := "5d4dd24316b817f5ca2333052d7726d77750727cda890bca54e6d79faf0cd541", func := "weirmaster/weirkeep.ColourTree", spec := "colourTree", unfollowed := true, recurses := true, apart := false, narrowed := true }
def ColourTreeUptoSaid : Prop := colourTreeUptoRow.holds Try.pinned (OpenSpec.upto colourTreeSpec)

/-- 'weirkeep.ColourTwo', WHERE WHAT IT READS IS OF BULK AT MOST 1048576: true; the input reads as it did. -/
def colourTwoUptoRow : OpenClaim := { program := "ytblhoelmodbifaa", sum := "5d4dd24316b817f5ca2333052d7726d77750727cda890bca54e6d79faf0cd541", func := "weirmaster/weirkeep.ColourTwo", spec := "colourTwo", unfollowed := true, recurses := true, apart := false, narrowed := true }
def ColourTwoUptoSaid : Prop := colourTwoUptoRow.holds Try.pinned (OpenSpec.upto colourTwoSpec)

/-- 'weirkeep.ColourSides', WHERE WHAT IT READS IS OF BULK AT MOST 1048576: true; the input reads as it did. -/
def colourSidesUptoRow : OpenClaim := { program := "ytblhoelmodbifaa", sum := "5d4dd24316b817f5ca2333052d7726d77750727cda890bca54e6d79faf0cd541", func := "weirmaster/weirkeep.ColourSides", spec := "colourSides", unfollowed := true, recurses := true, apart := false, narrowed := true }
def ColourSidesUptoSaid : Prop := colourSidesUptoRow.holds Try.pinned (OpenSpec.upto colourSidesSpec)

end Rows
end Go.Proofs.Ytblhoelmodbifaa
