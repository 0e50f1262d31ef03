/-
  No cell of these rows narrows 'for every input' (looked for: loops, veiled, ifaces, maps, wideKeys, modest, calm, conditions, laid).
  DERIVED. THE GIVEN ROWS OF THIS SEAT. 12 by the template 'for every input the law returns true; each argument reads behind the call as it read before'; 0 by the template 'total and deterministic' (their statements: YthgjamhcnaamdaaTotals.lean).
  GIVEN WITH THE SEED: the statements are not yours to turn. If you find one false, say at which input.
  Laid BY PROGRAM, IN A SANDBOX (cutbox-rows.mjs): the forced cells as the released guide's own fill.sh prints them over the translation 25611845d1db0c71… (all of the seat's roots in one cut). By AI agents, Wed Nov 11 2026. No macro, syntax, notation, axiom, sorry.
-/
import Derived.Test.YthgjamhcnaamdaaChecked
import GoSem.Claim
import GoSem.ClaimJoined
import GoSem.ClaimMapViews
import Derived.JoinedTies
import Derived.KernelRfl
namespace Go.Proofs.Ythgjamhcnaamdaa
/- THE CELL 'sum', in the pinned program and in every row, IS THE sha256 OF THE DUMP (.gsa) THAT YthgjamhcnaamdaaProg.lean LOADS. Nothing in Lean hashes anything: it is a label: what it is worth is what the hold of that sum in a sandbox is worth. -/
noncomputable def Try.pinned : Pinned := { name := "ythgjamhcnaamdaa", sum := "25611845d1db0c718dedad03d7b99e4fb7e872f5b6c3838d57061eaa27b3064f", checked := Try.checked }
namespace Rows
def none {H : Type} : Left H := { results := [], args := [] }

/-- 'weirkeep.GaleRyser': WHATEVER THE INPUT: true; the input reads as it did. -/
def galeRyserSpec : ChangeSpec := { name := "galeRyser", fn := fun _ => fun
  | [d1, d2] => { results := [.lit (.bool true)], args := [d1, d2] }
  | _ => none }
def galeRyserRow : OpenClaim := { program := "ythgjamhcnaamdaa", sum := "25611845d1db0c718dedad03d7b99e4fb7e872f5b6c3838d57061eaa27b3064f", func := "weirmaster/weirkeep.GaleRyser", spec := "galeRyser", unfollowed := true, recurses := true, apart := false }
def GaleRyserSaid : Prop := galeRyserRow.holds Try.pinned (OpenSpec.ofChange galeRyserSpec)

/-- ITS FALSE NEIGHBOUR: 'it returns false'. Refute it at one input. -/
def galeRyserWrong : ChangeSpec := { name := "galeRyser", fn := fun _ => fun
  | [d1, d2] => { results := [.lit (.bool false)], args := [d1, d2] }
  | _ => none }
def GaleRyserWrongFalsely : Prop := galeRyserRow.holds Try.pinned (OpenSpec.ofChange galeRyserWrong)

/-- 'weirkeep.GaleTwice': WHATEVER THE INPUT: true; the input reads as it did. -/
def galeTwiceSpec : ChangeSpec := { name := "galeTwice", fn := fun _ => fun
  | [d1, d2] => { results := [.lit (.bool true)], args := [d1, d2] }
  | _ => none }
def galeTwiceRow : OpenClaim := { program := "ythgjamhcnaamdaa", sum := "25611845d1db0c718dedad03d7b99e4fb7e872f5b6c3838d57061eaa27b3064f", func := "weirmaster/weirkeep.GaleTwice", spec := "galeTwice", unfollowed := true, recurses := true, apart := false }
def GaleTwiceSaid : Prop := galeTwiceRow.holds Try.pinned (OpenSpec.ofChange galeTwiceSpec)

/-- ITS FALSE NEIGHBOUR: 'it returns false'. Refute it at one input. -/
def galeTwiceWrong : ChangeSpec := { name := "galeTwice", fn := fun _ => fun
  | [d1, d2] => { results := [.lit (.bool false)], args := [d1, d2] }
  | _ => none }
def GaleTwiceWrongFalsely : Prop := galeTwiceRow.holds Try.pinned (OpenSpec.ofChange galeTwiceWrong)

/-- 'weirkeep.DegreeOthers': WHATEVER THE INPUT: true; the input reads as it did. -/
def degreeOthersSpec : ChangeSpec := { name := "degreeOthers", fn := fun _ => fun
  | [d] => { results := [.lit (.bool true)], args := [d] }
  | _ => none }
def degreeOthersRow : OpenClaim := { program := "ythgjamhcnaamdaa", sum := "25611845d1db0c718dedad03d7b99e4fb7e872f5b6c3838d57061eaa27b3064f", func := "weirmaster/weirkeep.DegreeOthers", spec := "degreeOthers", unfollowed := true, recurses := true, apart := false }
def DegreeOthersSaid : Prop := degreeOthersRow.holds Try.pinned (OpenSpec.ofChange degreeOthersSpec)

/-- ITS FALSE NEIGHBOUR: 'it returns false'. Refute it at one input. -/
def degreeOthersWrong : ChangeSpec := { name := "degreeOthers", fn := fun _ => fun
  | [d] => { results := [.lit (.bool false)], args := [d] }
  | _ => none }
def DegreeOthersWrongFalsely : Prop := degreeOthersRow.holds Try.pinned (OpenSpec.ofChange degreeOthersWrong)

/-- 'weirkeep.DegreeGallai': WHATEVER THE INPUT: true; the input reads as it did. -/
def degreeGallaiSpec : ChangeSpec := { name := "degreeGallai", fn := fun _ => fun
  | [d1, d2] => { results := [.lit (.bool true)], args := [d1, d2] }
  | _ => none }
def degreeGallaiRow : OpenClaim := { program := "ythgjamhcnaamdaa", sum := "25611845d1db0c718dedad03d7b99e4fb7e872f5b6c3838d57061eaa27b3064f", func := "weirmaster/weirkeep.DegreeGallai", spec := "degreeGallai", unfollowed := true, recurses := true, apart := false }
def DegreeGallaiSaid : Prop := degreeGallaiRow.holds Try.pinned (OpenSpec.ofChange degreeGallaiSpec)

/-- ITS FALSE NEIGHBOUR: 'it returns false'. Refute it at one input. -/
def degreeGallaiWrong : ChangeSpec := { name := "degreeGallai", fn := fun _ => fun
  | [d1, d2] => { results := [.lit (.bool false)], args := [d1, d2] }
  | _ => none }
def DegreeGallaiWrongFalsely : Prop := degreeGallaiRow.holds Try.pinned (OpenSpec.ofChange degreeGallaiWrong)

/-- 'weirkeep.DegreeSums': WHATEVER THE INPUT: true; the input reads as it did. -/
def degreeSumsSpec : ChangeSpec := { name := "degreeSums", fn := fun _ => fun
  | [d] => { results := [.lit (.bool true)], args := [d] }
  | _ => none }
def degreeSumsRow : OpenClaim := { program := "ythgjamhcnaamdaa", sum := "25611845d1db0c718dedad03d7b99e4fb7e872f5b6c3838d57061eaa27b3064f", func := "weirmaster/weirkeep.DegreeSums", spec := "degreeSums", unfollowed := true, recurses := true, apart := false }
def DegreeSumsSaid : Prop := degreeSumsRow.holds Try.pinned (OpenSpec.ofChange degreeSumsSpec)

/-- ITS FALSE NEIGHBOUR: 'it returns false'. Refute it at one input. -/
def degreeSumsWrong : ChangeSpec := { name := "degreeSums", fn := fun _ => fun
  | [d] => { results := [.lit (.bool false)], args := [d] }
  | _ => none }
def DegreeSumsWrongFalsely : Prop := degreeSumsRow.holds Try.pinned (OpenSpec.ofChange degreeSumsWrong)

/-- 'weirkeep.MatchFlow': WHATEVER THE INPUT: true; the input reads as it did. -/
def matchFlowSpec : ChangeSpec := { name := "matchFlow", fn := fun _ => fun
  | [d1, d2, d3] => { results := [.lit (.bool true)], args := [d1, d2, d3] }
  | _ => none }
def matchFlowRow : OpenClaim := { program := "ythgjamhcnaamdaa", sum := "25611845d1db0c718dedad03d7b99e4fb7e872f5b6c3838d57061eaa27b3064f", func := "weirmaster/weirkeep.MatchFlow", spec := "matchFlow", unfollowed := true, recurses := true, apart := false }
def MatchFlowSaid : Prop := matchFlowRow.holds Try.pinned (OpenSpec.ofChange matchFlowSpec)

/-- ITS FALSE NEIGHBOUR: 'it returns false'. Refute it at one input. -/
def matchFlowWrong : ChangeSpec := { name := "matchFlow", fn := fun _ => fun
  | [d1, d2, d3] => { results := [.lit (.bool false)], args := [d1, d2, d3] }
  | _ => none }
def MatchFlowWrongFalsely : Prop := matchFlowRow.holds Try.pinned (OpenSpec.ofChange matchFlowWrong)

/-- 'weirkeep.BlossomSides': WHATEVER THE INPUT: true; the input reads as it did. -/
def blossomSidesSpec : ChangeSpec := { name := "blossomSides", fn := fun _ => fun
  | [d] => { results := [.lit (.bool true)], args := [d] }
  | _ => none }
def blossomSidesRow : OpenClaim := { program := "ythgjamhcnaamdaa", sum := "25611845d1db0c718dedad03d7b99e4fb7e872f5b6c3838d57061eaa27b3064f", func := "weirmaster/weirkeep.BlossomSides", spec := "blossomSides", unfollowed := true, recurses := true, apart := false }
def BlossomSidesSaid : Prop := blossomSidesRow.holds Try.pinned (OpenSpec.ofChange blossomSidesSpec)

/-- ITS FALSE NEIGHBOUR: 'it returns false'. Refute it at one input. -/
def blossomSidesWrong : ChangeSpec := { name := "blossomSides", fn := fun _ => fun
  | [d] => { results := [.lit (.bool false)], args := [d] }
  | _ => none }
def BlossomSidesWrongFalsely : Prop := blossomSidesRow.holds Try.pinned (OpenSpec.ofChange blossomSidesWrong)

/-- 'weirkeep.MatchMore': WHATEVER THE INPUT: true; the input reads as it did. -/
def matchMoreSpec : ChangeSpec := { name := "matchMore", fn := fun _ => fun
  | [d1, d2, d3, d4] => { results := [.lit (.bool true)], args := [d1, d2, d3, d4] }
  | _ => none }
def matchMoreRow : OpenClaim := { program := "ythgjamhcnaamdaa", sum := "25611845d1db0c718dedad03d7b99e4fb7e872f5b6c3838d57061eaa27b3064f", func := "weirmaster/weirkeep.MatchMore", spec := "matchMore", unfollowed := true, recurses := true, apart := false }
def MatchMoreSaid : Prop := matchMoreRow.holds Try.pinned (OpenSpec.ofChange matchMoreSpec)

/-- ITS FALSE NEIGHBOUR: 'it returns false'. Refute it at one input. -/
def matchMoreWrong : ChangeSpec := { name := "matchMore", fn := fun _ => fun
  | [d1, d2, d3, d4] => { results := [.lit (.bool false)], args := [d1, d2, d3, d4] }
  | _ => none }
def MatchMoreWrongFalsely : Prop := matchMoreRow.holds Try.pinned (OpenSpec.ofChange matchMoreWrong)

/-- 'weirkeep.MatchHolds': WHATEVER THE INPUT: true; the input reads as it did. -/
def matchHoldsSpec : ChangeSpec := { name := "matchHolds", fn := fun _ => fun
  | [d1, d2, d3, d4, d5] => { results := [.lit (.bool true)], args := [d1, d2, d3, d4, d5] }
  | _ => none }
def matchHoldsRow : OpenClaim := { program := "ythgjamhcnaamdaa", sum := "25611845d1db0c718dedad03d7b99e4fb7e872f5b6c3838d57061eaa27b3064f", func := "weirmaster/weirkeep.MatchHolds", spec := "matchHolds", unfollowed := true, recurses := true, apart := false }
def MatchHoldsSaid : Prop := matchHoldsRow.holds Try.pinned (OpenSpec.ofChange matchHoldsSpec)

/-- ITS FALSE NEIGHBOUR: 'it returns false'. Refute it at one input. -/
def matchHoldsWrong : ChangeSpec := { name := "matchHolds", fn := fun _ => fun
  | [d1, d2, d3, d4, d5] => { results := [.lit (.bool false)], args := [d1, d2, d3, d4, d5] }
  | _ => none }
def MatchHoldsWrongFalsely : Prop := matchHoldsRow.holds Try.pinned (OpenSpec.ofChange matchHoldsWrong)

/-- 'weirkeep.MatchHall': WHATEVER THE INPUT: true; the input reads as it did. -/
def matchHallSpec : ChangeSpec := { name := "matchHall", fn := fun _ => fun
  | [d1, d2, d3, d4] => { results := [.lit (.bool true)], args := [d1, d2, d3, d4] }
  | _ => none }
def matchHallRow : OpenClaim := { program := "ythgjamhcnaamdaa", sum := "25611845d1db0c718dedad03d7b99e4fb7e872f5b6c3838d57061eaa27b3064f", func := "weirmaster/weirkeep.MatchHall", spec := "matchHall", unfollowed := true, recurses := true, apart := false }
def MatchHallSaid : Prop := matchHallRow.holds Try.pinned (OpenSpec.ofChange matchHallSpec)

/-- ITS FALSE NEIGHBOUR: 'it returns false'. Refute it at one input. -/
def matchHallWrong : ChangeSpec := { name := "matchHall", fn := fun _ => fun
  | [d1, d2, d3, d4] => { results := [.lit (.bool false)], args := [d1, d2, d3, d4] }
  | _ => none }
def MatchHallWrongFalsely : Prop := matchHallRow.holds Try.pinned (OpenSpec.ofChange matchHallWrong)

/-- 'weirkeep.ListsOwn': WHATEVER THE INPUT: true; the input reads as it did. -/
def listsOwnSpec : ChangeSpec := { name := "listsOwn", fn := fun _ => fun
  | [d1, d2, d3, d4, d5, d6] => { results := [.lit (.bool true)], args := [d1, d2, d3, d4, d5, d6] }
  | _ => none }
def listsOwnRow : OpenClaim := { program := "ythgjamhcnaamdaa", sum := "25611845d1db0c718dedad03d7b99e4fb7e872f5b6c3838d57061eaa27b3064f", func := "weirmaster/weirkeep.ListsOwn", spec := "listsOwn", unfollowed := true, recurses := true, apart := false }
def ListsOwnSaid : Prop := listsOwnRow.holds Try.pinned (OpenSpec.ofChange listsOwnSpec)

/-- ITS FALSE NEIGHBOUR: 'it returns false'. Refute it at one input. -/
def listsOwnWrong : ChangeSpec := { name := "listsOwn", fn := fun _ => fun
  | [d1, d2, d3, d4, d5, d6] => { results := [.lit (.bool false)], args := [d1, d2, d3, d4, d5, d6] }
  | _ => none }
def ListsOwnWrongFalsely : Prop := listsOwnRow.holds Try.pinned (OpenSpec.ofChange listsOwnWrong)

/-- 'weirtop.TopPairs': WHATEVER THE INPUT: true; the input reads as it did. -/
def topPairsSpec : ChangeSpec := { name := "topPairs", fn := fun _ => fun
  | [d1, d2, d3] => { results := [.lit (.bool true)], args := [d1, d2, d3] }
  | _ => none }
def topPairsRow : OpenClaim := { program := "ythgjamhcnaamdaa", sum := "25611845d1db0c718dedad03d7b99e4fb7e872f5b6c3838d57061eaa27b3064f", func := "weirmaster/weirtop.TopPairs", spec := "topPairs", unfollowed := true, recurses := true, apart := false }
def TopPairsSaid : Prop := topPairsRow.holds Try.pinned (OpenSpec.ofChange topPairsSpec)

/-- ITS FALSE NEIGHBOUR: 'it returns false'. Refute it at one input. -/
def topPairsWrong : ChangeSpec := { name := "topPairs", fn := fun _ => fun
  | [d1, d2, d3] => { results := [.lit (.bool false)], args := [d1, d2, d3] }
  | _ => none }
def TopPairsWrongFalsely : Prop := topPairsRow.holds Try.pinned (OpenSpec.ofChange topPairsWrong)

/- THE SECOND FORM. 'bulk': how many values and letters a reading holds, each counted each time it is reached (what is shared counts as often as it is met; a slice's spare places count too). A statement '..UptoSaid' is the law's where the arguments, and the package variables that the reading takes, are together of bulk at most 1048576: NARROWER than '..Said'. Prove '..Said' where nothing that the law and all that it calls make is longer than what came in: it says more and counts as full. Else prove '..UptoSaid'. A law counts once. -/
mutual
def uptoBulk {H : Type} : DataW H → Nat
  | .lit (.string bytes) => bytes.length + 1
  | .lit _ => 1
  | .nil => 1
  | .ptr d => uptoBulk d + 1
  | .slice elems spare => uptoBulkAll elems + uptoBulkAll spare + 1
  | .agg parts => uptoBulkAll parts + 1
  | .iface _ d => uptoBulk d + 1
  | .map entries => uptoBulkEntries entries + 1
  | .held _ => 1
def uptoBulkAll {H : Type} : List (DataW H) → Nat
  | [] => 0
  | d :: r => uptoBulk d + uptoBulkAll r
def uptoBulkEntries {H : Type} : List (Lit × DataW H) → Nat
  | [] => 0
  | x :: r => uptoBulkEntry x + uptoBulkEntries r
def uptoBulkEntry {H : Type} : Lit × DataW H → Nat
  | (.string bytes, d) => bytes.length + uptoBulk d + 1
  | (_, d) => uptoBulk d + 1
 end
def uptoSmall : (H : Type) → List (DataW H) → Bool := fun _ ds => decide (uptoBulkAll ds ≤ 1048576)
def OpenSpec.upto (s : _root_.Go.ChangeSpec) : _root_.Go.OpenSpec := { _root_.Go.OpenSpec.ofChange s with cond := some uptoSmall }

/-- 'weirkeep.GaleRyser', WHERE WHAT IT READS IS OF BULK AT MOST 1048576: true; the input reads as it did. -/
def galeRyserUptoRow : OpenClaim := { program := "ythgjamhcnaamdaa", sum := "25611845d1db0c718dedad03d7b99e4fb7e872f5b6c3838d57061eaa27b3064f", func := "weirmaster/weirkeep.GaleRyser", spec := "galeRyser", unfollowed := true, recurses := true, apart := false, narrowed := true }
def GaleRyserUptoSaid : Prop := galeRyserUptoRow.holds Try.pinned (OpenSpec.upto galeRyserSpec)

/-- 'weirkeep.GaleTwice', WHERE WHAT IT READS IS OF BULK AT MOST 1048576: true; the input reads as it did. -/
def galeTwiceUptoRow : OpenClaim := { program := "ythgjamhcnaamdaa", sum := "25611845d1db0c718dedad03d7b99e4fb7e872f5b6c3838d57061eaa27b3064f", func := "weirmaster/weirkeep.GaleTwice", spec := "galeTwice", unfollowed := true, recurses := true, apart := false, narrowed := true }
def GaleTwiceUptoSaid : Prop := galeTwiceUptoRow.holds Try.pinned (OpenSpec.upto galeTwiceSpec)

/-- 'weirkeep.DegreeOthers', WHERE WHAT IT READS IS OF BULK AT MOST 1048576: true; the input reads as it did. -/
def degreeOthersUptoRow : OpenClaim := { program := "ythgjamhcnaamdaa", sum := "25611845d1db0c718dedad03d7b99e4fb7e872f5b6c3838d57061eaa27b3064f", func := "weirmaster/weirkeep.DegreeOthers", spec := "degreeOthers", unfollowed := true, recurses := true, apart := false, narrowed := true }
def DegreeOthersUptoSaid : Prop := degreeOthersUptoRow.holds Try.pinned (OpenSpec.upto degreeOthersSpec)

/-- 'weirkeep.DegreeGallai', WHERE WHAT IT READS IS OF BULK AT MOST 1048576: true; the input reads as it did. -/
def degreeGallaiUptoRow : OpenClaim := { program := "ythgjamhcnaamdaa", sum := "25611845d1db0c718dedad03d7b99e4fb7e872f5b6c3838d57061eaa27b3064f", func := "weirmaster/weirkeep.DegreeGallai", spec := "degreeGallai", unfollowed := true, recurses := true, apart := false, narrowed := true }
def DegreeGallaiUptoSaid : Prop := degreeGallaiUptoRow.holds Try.pinned (OpenSpec.upto degreeGallaiSpec)

/-- 'weirkeep.DegreeSums', WHERE WHAT IT READS IS OF BULK AT MOST 1048576: true; the input reads as it did. -/
def degreeSumsUptoRow : OpenClaim := { program := "ythgjamhcnaamdaa", sum := "25611845d1db0c718dedad03d7b99e4fb7e872f5b6c3838d57061eaa27b3064f", func := "weirmaster/weirkeep.DegreeSums", spec := "degreeSums", unfollowed := true, recurses := true, apart := false, narrowed := true }
def DegreeSumsUptoSaid : Prop := degreeSumsUptoRow.holds Try.pinned (OpenSpec.upto degreeSumsSpec)

/-- 'weirkeep.MatchFlow', WHERE WHAT IT READS IS OF BULK AT MOST 1048576: true; the input reads as it did. -/
def matchFlowUptoRow : OpenClaim := { program := "ythgjamhcnaamdaa", sum := "25611845d1db0c718dedad03d7b99e4fb7e872f5b6c3838d57061eaa27b3064f", func := "weirmaster/weirkeep.MatchFlow", spec := "matchFlow", unfollowed := true, recurses := true, apart := false, narrowed := true }
def MatchFlowUptoSaid : Prop := matchFlowUptoRow.holds Try.pinned (OpenSpec.upto matchFlowSpec)

/-- 'weirkeep.BlossomSides', WHERE WHAT IT READS IS OF BULK AT MOST 1048576: true; the input reads as it did. -/
def blossomSidesUptoRow : OpenClaim := { program := "ythgjamhcnaamdaa", sum := "25611845d1db0c718dedad03d7b99e4fb7e872f5b6c3838d57061eaa27b3064f", func := "weirmaster/weirkeep.BlossomSides", spec := "blossomSides", unfollowed := true, recurses := true, apart := false, narrowed := true }
def BlossomSidesUptoSaid : Prop := blossomSidesUptoRow.holds Try.pinned (OpenSpec.upto blossomSidesSpec)

/-- 'weirkeep.MatchMore', WHERE WHAT IT READS IS OF BULK AT MOST 1048576: true; the input reads as it did. -/
def matchMoreUptoRow : OpenClaim := { program := "ythgjamhcnaamdaa", sum := "25611845d1db0c718dedad03d7b99e4fb7e872f5b6c3838d57061eaa27b3064f", func := "weirmaster/weirkeep.MatchMore", spec := "matchMore", unfollowed := true, recurses := true, apart := false, narrowed := true }
def MatchMoreUptoSaid : Prop := matchMoreUptoRow.holds Try.pinned (OpenSpec.upto matchMoreSpec)

/-- 'weirkeep.MatchHolds', WHERE WHAT IT READS IS OF BULK AT MOST 1048576: true; the input reads as it did. -/
def matchHoldsUptoRow : OpenClaim := { program := "ythgjamhcnaamdaa", sum := "25611845d1db0c718dedad03d7b99e4fb7e872f5b6c3838d57061eaa27b3064f", func := "weirmaster/weirkeep.MatchHolds", spec := "matchHolds", unfollowed := true, recurses := true, apart := false, narrowed := true }
def MatchHoldsUptoSaid : Prop := matchHoldsUptoRow.holds Try.pinned (OpenSpec.upto matchHoldsSpec)

/-- 'weirkeep.MatchHall', WHERE WHAT IT READS IS OF BULK AT MOST 1048576: true; the input reads as it did. -/
def matchHallUptoRow : OpenClaim := { program := "ythgjamhcnaamdaa", sum := "25611845d1db0c718dedad03d7b99e4fb7e872f5b6c3838d57061eaa27b3064f", func := "weirmaster/weirkeep.MatchHall", spec := "matchHall", unfollowed := true, recurses := true, apart := false, narrowed := true }
def MatchHallUptoSaid : Prop := matchHallUptoRow.holds Try.pinned (OpenSpec.upto matchHallSpec)

/-- 'weirkeep.ListsOwn', WHERE WHAT IT READS IS OF BULK AT MOST 1048576: true; the input reads as it did. -/
def listsOwnUptoRow : OpenClaim := { program := "ythgjamhcnaamdaa", sum := "25611845d1db0c718dedad03d7b99e4fb7e872f5b6c3838d57061eaa27b3064f", func := "weirmaster/weirkeep.ListsOwn", spec := "listsOwn", unfollowed := true, recurses := true, apart := false, narrowed := true }
def ListsOwnUptoSaid : Prop := listsOwnUptoRow.holds Try.pinned (OpenSpec.upto listsOwnSpec)

/-- 'weirtop.TopPairs', WHERE WHAT IT READS IS OF BULK AT MOST 1048576: true; the input reads as it did. -/
def topPairsUptoRow : OpenClaim := { program := "ythgjamhcnaamdaa", sum := "25611845d1db0c718dedad03d7b99e4fb7e872f5b6c3838d57061eaa27b3064f", func := "weirmaster/weirtop.TopPairs", spec := "topPairs", unfollowed := true, recurses := true, apart := false, narrowed := true }
def TopPairsUptoSaid : Prop := topPairsUptoRow.holds Try.pinned (OpenSpec.upto topPairsSpec)

end Rows
end Go.Proofs.Ythgjamhcnaamdaa
