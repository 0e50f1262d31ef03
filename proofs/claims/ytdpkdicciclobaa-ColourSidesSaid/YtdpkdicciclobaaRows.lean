/-
  No cell of these rows narrows 'for every input' (looked for: loops, veiled, ifaces, maps, wideKeys, modest, calm, conditions, laid).
  DERIVED. THE GIVEN ROWS OF THIS SEAT. 10 by the template 'for every input the law returns true; each argument reads behind the call as it read before'; 0 by the template 'total and deterministic' (their statements: YtdpkdicciclobaaTotals.lean).
  GIVEN WITH THE SEED: the statements are not yours to turn. If you find one false, say at which input.
  Laid BY PROGRAM, IN A SANDBOX (cutbox-rows.mjs): the forced cells as the released guide's own fill.sh prints them over the translation e6d3b8d76f96b0b5… (all of the seat's roots in one cut). By AI agents, Wed Nov 11 2026. No macro, syntax, notation, axiom, sorry.
-/
import Derived.Test.YtdpkdicciclobaaChecked
import GoSem.Claim
import GoSem.ClaimJoined
import GoSem.ClaimMapViews
import Derived.JoinedTies
import Derived.KernelRfl
namespace Go.Proofs.Ytdpkdicciclobaa
/- THE CELL 'sum', in the pinned program and in every row, IS THE sha256 OF THE DUMP (.gsa) THAT YtdpkdicciclobaaProg.lean LOADS. Nothing in Lean hashes anything: it is a label: what it is worth is what the hold of that sum in a sandbox is worth. -/
noncomputable def Try.pinned : Pinned := { name := "ytdpkdicciclobaa", sum := "e6d3b8d76f96b0b56d9a4f66cfb837a454d2b533e11df8e5ebc01eae55cc1a5b", checked := Try.checked }
namespace Rows
def none {H : Type} : Left H := { results := [], args := [] }

/-- 'weirkeep.DetRows': WHATEVER THE INPUT: true; the input reads as it did. -/
def detRowsSpec : ChangeSpec := { name := "detRows", fn := fun _ => fun
  | [d1, d2, d3] => { results := [.lit (.bool true)], args := [d1, d2, d3] }
  | _ => none }
def detRowsRow : OpenClaim := { program := "ytdpkdicciclobaa", sum := "e6d3b8d76f96b0b56d9a4f66cfb837a454d2b533e11df8e5ebc01eae55cc1a5b", func := "weirmaster/weirkeep.DetRows", spec := "detRows", apart := false }
def DetRowsSaid : Prop := detRowsRow.holds Try.pinned (OpenSpec.ofChange detRowsSpec)

/-- ITS FALSE NEIGHBOUR: 'it returns false'. Refute it at one input. -/
def detRowsWrong : ChangeSpec := { name := "detRows", fn := fun _ => fun
  | [d1, d2, d3] => { results := [.lit (.bool false)], args := [d1, d2, d3] }
  | _ => none }
def DetRowsWrongFalsely : Prop := detRowsRow.holds Try.pinned (OpenSpec.ofChange detRowsWrong)

/-- 'weirkeep.TreeLess': WHATEVER THE INPUT: true; the input reads as it did. -/
def treeLessSpec : ChangeSpec := { name := "treeLess", fn := fun _ => fun
  | [d1, d2] => { results := [.lit (.bool true)], args := [d1, d2] }
  | _ => none }
def treeLessRow : OpenClaim := { program := "ytdpkdicciclobaa", sum := "e6d3b8d76f96b0b56d9a4f66cfb837a454d2b533e11df8e5ebc01eae55cc1a5b", func := "weirmaster/weirkeep.TreeLess", spec := "treeLess", unfollowed := true, recurses := true, apart := false }
def TreeLessSaid : Prop := treeLessRow.holds Try.pinned (OpenSpec.ofChange treeLessSpec)

/-- ITS FALSE NEIGHBOUR: 'it returns false'. Refute it at one input. -/
def treeLessWrong : ChangeSpec := { name := "treeLess", fn := fun _ => fun
  | [d1, d2] => { results := [.lit (.bool false)], args := [d1, d2] }
  | _ => none }
def TreeLessWrongFalsely : Prop := treeLessRow.holds Try.pinned (OpenSpec.ofChange treeLessWrong)

/-- 'weirkeep.ColourSides': WHATEVER THE INPUT: true; the input reads as it did. -/
def colourSidesSpec : ChangeSpec := { name := "colourSides", fn := fun _ => fun
  | [d] => { results := [.lit (.bool true)], args := [d] }
  | _ => none }
def colourSidesRow : OpenClaim := { program := "ytdpkdicciclobaa", sum := "e6d3b8d76f96b0b56d9a4f66cfb837a454d2b533e11df8e5ebc01eae55cc1a5b", func := "weirmaster/weirkeep.ColourSides", spec := "colourSides", unfollowed := true, recurses := true, apart := false }
def ColourSidesSaid : Prop := colourSidesRow.holds Try.pinned (OpenSpec.ofChange colourSidesSpec)

/-- ITS FALSE NEIGHBOUR: 'it returns false'. Refute it at one input. -/
def colourSidesWrong : ChangeSpec := { name := "colourSides", fn := fun _ => fun
  | [d] => { results := [.lit (.bool false)], args := [d] }
  | _ => none }
def ColourSidesWrongFalsely : Prop := colourSidesRow.holds Try.pinned (OpenSpec.ofChange colourSidesWrong)

/-- 'weirkeep.BlossomBars': WHATEVER THE INPUT: true; the input reads as it did. -/
def blossomBarsSpec : ChangeSpec := { name := "blossomBars", fn := fun _ => fun
  | [d1, d2] => { results := [.lit (.bool true)], args := [d1, d2] }
  | _ => none }
def blossomBarsRow : OpenClaim := { program := "ytdpkdicciclobaa", sum := "e6d3b8d76f96b0b56d9a4f66cfb837a454d2b533e11df8e5ebc01eae55cc1a5b", func := "weirmaster/weirkeep.BlossomBars", spec := "blossomBars", unfollowed := true, recurses := true, apart := false }
def BlossomBarsSaid : Prop := blossomBarsRow.holds Try.pinned (OpenSpec.ofChange blossomBarsSpec)

/-- ITS FALSE NEIGHBOUR: 'it returns false'. Refute it at one input. -/
def blossomBarsWrong : ChangeSpec := { name := "blossomBars", fn := fun _ => fun
  | [d1, d2] => { results := [.lit (.bool false)], args := [d1, d2] }
  | _ => none }
def BlossomBarsWrongFalsely : Prop := blossomBarsRow.holds Try.pinned (OpenSpec.ofChange blossomBarsWrong)

/-- 'weirkeep.GaleTwice': WHATEVER THE INPUT: true; the input reads as it did. -/
def galeTwiceSpec : ChangeSpec := { name := "galeTwice", fn := fun _ => fun
  | [d1, d2] => { results := [.lit (.bool true)], args := [d1, d2] }
  | _ => none }
def galeTwiceRow : OpenClaim := { program := "ytdpkdicciclobaa", sum := "e6d3b8d76f96b0b56d9a4f66cfb837a454d2b533e11df8e5ebc01eae55cc1a5b", func := "weirmaster/weirkeep.GaleTwice", spec := "galeTwice", unfollowed := true, recurses := true, apart := false }
def GaleTwiceSaid : Prop := galeTwiceRow.holds Try.pinned (OpenSpec.ofChange galeTwiceSpec)

/-- ITS FALSE NEIGHBOUR: 'it returns false'. Refute it at one input. -/
def galeTwiceWrong : ChangeSpec := { name := "galeTwice", fn := fun _ => fun
  | [d1, d2] => { results := [.lit (.bool false)], args := [d1, d2] }
  | _ => none }
def GaleTwiceWrongFalsely : Prop := galeTwiceRow.holds Try.pinned (OpenSpec.ofChange galeTwiceWrong)

/-- 'weirkeep.LevelFew': WHATEVER THE INPUT: true; the input reads as it did. -/
def levelFewSpec : ChangeSpec := { name := "levelFew", fn := fun _ => fun
  | [d] => { results := [.lit (.bool true)], args := [d] }
  | _ => none }
def levelFewRow : OpenClaim := { program := "ytdpkdicciclobaa", sum := "e6d3b8d76f96b0b56d9a4f66cfb837a454d2b533e11df8e5ebc01eae55cc1a5b", func := "weirmaster/weirkeep.LevelFew", spec := "levelFew", recurses := true, apart := false }
def LevelFewSaid : Prop := levelFewRow.holds Try.pinned (OpenSpec.ofChange levelFewSpec)

/-- ITS FALSE NEIGHBOUR: 'it returns false'. Refute it at one input. -/
def levelFewWrong : ChangeSpec := { name := "levelFew", fn := fun _ => fun
  | [d] => { results := [.lit (.bool false)], args := [d] }
  | _ => none }
def LevelFewWrongFalsely : Prop := levelFewRow.holds Try.pinned (OpenSpec.ofChange levelFewWrong)

/-- 'weirkeep.LevelSame': WHATEVER THE INPUT: true; the input reads as it did. -/
def levelSameSpec : ChangeSpec := { name := "levelSame", fn := fun _ => fun
  | [d] => { results := [.lit (.bool true)], args := [d] }
  | _ => none }
def levelSameRow : OpenClaim := { program := "ytdpkdicciclobaa", sum := "e6d3b8d76f96b0b56d9a4f66cfb837a454d2b533e11df8e5ebc01eae55cc1a5b", func := "weirmaster/weirkeep.LevelSame", spec := "levelSame", recurses := true, apart := false }
def LevelSameSaid : Prop := levelSameRow.holds Try.pinned (OpenSpec.ofChange levelSameSpec)

/-- ITS FALSE NEIGHBOUR: 'it returns false'. Refute it at one input. -/
def levelSameWrong : ChangeSpec := { name := "levelSame", fn := fun _ => fun
  | [d] => { results := [.lit (.bool false)], args := [d] }
  | _ => none }
def LevelSameWrongFalsely : Prop := levelSameRow.holds Try.pinned (OpenSpec.ofChange levelSameWrong)

/-- 'weirkeep.CutFull': WHATEVER THE INPUT: true; the input reads as it did. -/
def cutFullSpec : ChangeSpec := { name := "cutFull", fn := fun _ => fun
  | [d] => { results := [.lit (.bool true)], args := [d] }
  | _ => none }
def cutFullRow : OpenClaim := { program := "ytdpkdicciclobaa", sum := "e6d3b8d76f96b0b56d9a4f66cfb837a454d2b533e11df8e5ebc01eae55cc1a5b", func := "weirmaster/weirkeep.CutFull", spec := "cutFull", recurses := true, apart := false }
def CutFullSaid : Prop := cutFullRow.holds Try.pinned (OpenSpec.ofChange cutFullSpec)

/-- ITS FALSE NEIGHBOUR: 'it returns false'. Refute it at one input. -/
def cutFullWrong : ChangeSpec := { name := "cutFull", fn := fun _ => fun
  | [d] => { results := [.lit (.bool false)], args := [d] }
  | _ => none }
def CutFullWrongFalsely : Prop := cutFullRow.holds Try.pinned (OpenSpec.ofChange cutFullWrong)

/-- 'weirkeep.LeastNodes': WHATEVER THE INPUT: true; the input reads as it did. -/
def leastNodesSpec : ChangeSpec := { name := "leastNodes", fn := fun _ => fun
  | [d1, d2] => { results := [.lit (.bool true)], args := [d1, d2] }
  | _ => none }
def leastNodesRow : OpenClaim := { program := "ytdpkdicciclobaa", sum := "e6d3b8d76f96b0b56d9a4f66cfb837a454d2b533e11df8e5ebc01eae55cc1a5b", func := "weirmaster/weirkeep.LeastNodes", spec := "leastNodes", apart := false }
def LeastNodesSaid : Prop := leastNodesRow.holds Try.pinned (OpenSpec.ofChange leastNodesSpec)

/-- ITS FALSE NEIGHBOUR: 'it returns false'. Refute it at one input. -/
def leastNodesWrong : ChangeSpec := { name := "leastNodes", fn := fun _ => fun
  | [d1, d2] => { results := [.lit (.bool false)], args := [d1, d2] }
  | _ => none }
def LeastNodesWrongFalsely : Prop := leastNodesRow.holds Try.pinned (OpenSpec.ofChange leastNodesWrong)

/-- 'weirkeep.LeastPairs': WHATEVER THE INPUT: true; the input reads as it did. -/
def leastPairsSpec : ChangeSpec := { name := "leastPairs", fn := fun _ => fun
  | [d] => { results := [.lit (.bool true)], args := [d] }
  | _ => none }
def leastPairsRow : OpenClaim := { program := "ytdpkdicciclobaa", sum := "e6d3b8d76f96b0b56d9a4f66cfb837a454d2b533e11df8e5ebc01eae55cc1a5b", func := "weirmaster/weirkeep.LeastPairs", spec := "leastPairs", apart := false }
def LeastPairsSaid : Prop := leastPairsRow.holds Try.pinned (OpenSpec.ofChange leastPairsSpec)

/-- ITS FALSE NEIGHBOUR: 'it returns false'. Refute it at one input. -/
def leastPairsWrong : ChangeSpec := { name := "leastPairs", fn := fun _ => fun
  | [d] => { results := [.lit (.bool false)], args := [d] }
  | _ => none }
def LeastPairsWrongFalsely : Prop := leastPairsRow.holds Try.pinned (OpenSpec.ofChange leastPairsWrong)

/- THE SECOND FORM. 'bulk': how many values and letters a reading holds, each counted each time it is reached (what is shared counts as often as it is met; a slice's spare places count too). A statement '..UptoSaid' is the law's where the arguments, and the package variables that the reading takes, are together of bulk at most 1048576: NARROWER than '..Said'. Prove '..Said' where nothing that the law and all that it calls make is longer than what came in: it says more and counts as full. Else prove '..UptoSaid'. A law counts once. -/
mutual
def uptoBulk {H : Type} : DataW H → Nat
  | .lit (.string bytes) => bytes.length + 1
  | .lit _ => 1
  | .nil => 1
  | .ptr d => uptoBulk d + 1
  | .slice elems spare => uptoBulkAll elems + uptoBulkAll spare + 1
  | .agg parts => uptoBulkAll parts + 1
  | .iface _ d => uptoBulk d + 1
  | .map entries => uptoBulkEntries entries + 1
  | .held _ => 1
def uptoBulkAll {H : Type} : List (DataW H) → Nat
  | [] => 0
  | d :: r => uptoBulk d + uptoBulkAll r
def uptoBulkEntries {H : Type} : List (Lit × DataW H) → Nat
  | [] => 0
  | x :: r => uptoBulkEntry x + uptoBulkEntries r
def uptoBulkEntry {H : Type} : Lit × DataW H → Nat
  | (.string bytes, d) => bytes.length + uptoBulk d + 1
  | (_, d) => uptoBulk d + 1
 end
def uptoSmall : (H : Type) → List (DataW H) → Bool := fun _ ds => decide (uptoBulkAll ds ≤ 1048576)
def OpenSpec.upto (s : _root_.Go.ChangeSpec) : _root_.Go.OpenSpec := { _root_.Go.OpenSpec.ofChange s with cond := some uptoSmall }

/-- 'weirkeep.DetRows', WHERE WHAT IT READS IS OF BULK AT MOST 1048576: true; the input reads as it did. -/
def detRowsUptoRow : OpenClaim := { program := "ytdpkdicciclobaa", sum := "e6d3b8d76f96b0b56d9a4f66cfb837a454d2b533e11df8e5ebc01eae55cc1a5b", func := "weirmaster/weirkeep.DetRows", spec := "detRows", apart := false, narrowed := true }
def DetRowsUptoSaid : Prop := detRowsUptoRow.holds Try.pinned (OpenSpec.upto detRowsSpec)

/-- 'weirkeep.TreeLess', WHERE WHAT IT READS IS OF BULK AT MOST 1048576: true; the input reads as it did. -/
def treeLessUptoRow : OpenClaim := { program := "ytdpkdicciclobaa", sum := "e6d3b8d76f96b0b56d9a4f66cfb837a454d2b533e11df8e5ebc01eae55cc1a5b", func := "weirmaster/weirkeep.TreeLess", spec := "treeLess", unfollowed := true, recurses := true, apart := false, narrowed := true }
def TreeLessUptoSaid : Prop := treeLessUptoRow.holds Try.pinned (OpenSpec.upto treeLessSpec)

/-- 'weirkeep.ColourSides', WHERE WHAT IT READS IS OF BULK AT MOST 1048576: true; the input reads as it did. -/
def colourSidesUptoRow : OpenClaim := { program := "ytdpkdicciclobaa", sum := "e6d3b8d76f96b0b56d9a4f66cfb837a454d2b533e11df8e5ebc01eae55cc1a5b", func := "weirmaster/weirkeep.ColourSides", spec := "colourSides", unfollowed := true, recurses := true, apart := false, narrowed := true }
def ColourSidesUptoSaid : Prop := colourSidesUptoRow.holds Try.pinned (OpenSpec.upto colourSidesSpec)

/-- 'weirkeep.BlossomBars', WHERE WHAT IT READS IS OF BULK AT MOST 1048576: true; the input reads as it did. -/
def blossomBarsUptoRow : OpenClaim := { program := "ytdpkdicciclobaa", sum := "e6d3b8d76f96b0b56d9a4f66cfb837a454d2b533e11df8e5ebc01eae55cc1a5b", func := "weirmaster/weirkeep.BlossomBars", spec := "blossomBars", unfollowed := true, recurses := true, apart := false, narrowed := true }
def BlossomBarsUptoSaid : Prop := blossomBarsUptoRow.holds Try.pinned (OpenSpec.upto blossomBarsSpec)

/-- 'weirkeep.GaleTwice', WHERE WHAT IT READS IS OF BULK AT MOST 1048576: true; the input reads as it did. -/
def galeTwiceUptoRow : OpenClaim := { program := "ytdpkdicciclobaa", sum := "e6d3b8d76f96b0b56d9a4f66cfb837a454d2b533e11df8e5ebc01eae55cc1a5b", func := "weirmaster/weirkeep.GaleTwice", spec := "galeTwice", unfollowed := true, recurses := true, apart := false, narrowed := true }
def GaleTwiceUptoSaid : Prop := galeTwiceUptoRow.holds Try.pinned (OpenSpec.upto galeTwiceSpec)

/-- 'weirkeep.LevelFew', WHERE WHAT IT READS IS OF BULK AT MOST 1048576: true; the input reads as it did. -/
def levelFewUptoRow : OpenClaim := { program := "ytdpkdicciclobaa", sum := "e6d3b8d76f96b0b56d9a4f66cfb837a454d2b533e11df8e5ebc01eae55cc1a5b", func := "weirmaster/weirkeep.LevelFew", spec := "levelFew", recurses := true, apart := false, narrowed := true }
def LevelFewUptoSaid : Prop := levelFewUptoRow.holds Try.pinned (OpenSpec.upto levelFewSpec)

/-- 'weirkeep.LevelSame', WHERE WHAT IT READS IS OF BULK AT MOST 1048576: true; the input reads as it did. -/
def levelSameUptoRow : OpenClaim := { program := "ytdpkdicciclobaa", sum := "e6d3b8d76f96b0b56d9a4f66cfb837a454d2b533e11df8e5ebc01eae55cc1a5b", func := "weirmaster/weirkeep.LevelSame", spec := "levelSame", recurses := true, apart := false, narrowed := true }
def LevelSameUptoSaid : Prop := levelSameUptoRow.holds Try.pinned (OpenSpec.upto levelSameSpec)

/-- 'weirkeep.CutFull', WHERE WHAT IT READS IS OF BULK AT MOST 1048576: true; the input reads as it did. -/
def cutFullUptoRow : OpenClaim := { program := "ytdpkdicciclobaa", sum := "e6d3b8d76f96b0b56d9a4f66cfb837a454d2b533e11df8e5ebc01eae55cc1a5b", func := "weirmaster/weirkeep.CutFull", spec := "cutFull", recurses := true, apart := false, narrowed := true }
def CutFullUptoSaid : Prop := cutFullUptoRow.holds Try.pinned (OpenSpec.upto cutFullSpec)

/-- 'weirkeep.LeastNodes', WHERE WHAT IT READS IS OF BULK AT MOST 1048576: true; the input reads as it did. -/
def leastNodesUptoRow : OpenClaim := { program := "ytdpkdicciclobaa", sum := "e6d3b8d76f96b0b56d9a4f66cfb837a454d2b533e11df8e5ebc01eae55cc1a5b", func := "weirmaster/weirkeep.LeastNodes", spec := "leastNodes", apart := false, narrowed := true }
def LeastNodesUptoSaid : Prop := leastNodesUptoRow.holds Try.pinned (OpenSpec.upto leastNodesSpec)

/-- 'weirkeep.LeastPairs', WHERE WHAT IT READS IS OF BULK AT MOST 1048576: true; the input reads as it did. -/
def leastPairsUptoRow : OpenClaim := { program := "ytdpkdicciclobaa", sum := "e6d3b8d76f96b0b56d9a4f66cfb837a454d2b533e11df8e5ebc01eae55cc1a5b", func := "weirmaster/weirkeep.LeastPairs", spec := "leastPairs", apart := false, narrowed := true }
def LeastPairsUptoSaid : Prop := leastPairsUptoRow.holds Try.pinned (OpenSpec.upto leastPairsSpec)

end Rows
end Go.Proofs.Ytdpkdicciclobaa
