/-
  No cell of these rows narrows 'for every input' (looked for: loops, veiled, ifaces, maps, wideKeys, modest, calm, conditions, laid).
  DERIVED. THE GIVEN ROWS OF THIS SEAT. 12 by the template 'for every input the law returns true; each argument reads behind the call as it read before'; 0 by the template 'total and deterministic' (their statements: YtlelfifbmckhgaaTotals.lean).
  GIVEN WITH THE SEED: the statements are not yours to turn. If you find one false, say at which input.
  Laid BY PROGRAM, IN A SANDBOX (cutbox-rows.mjs): the forced cells as the released guide's own fill.sh prints them over the translation 4d6d1ddede60c5c6… (all of the seat's roots in one cut). By AI agents, Wed Nov 11 2026. No macro, syntax, notation, axiom, sorry.
-/
import Derived.Test.YtlelfifbmckhgaaChecked
import GoSem.Claim
import GoSem.ClaimJoined
import GoSem.ClaimMapViews
import Derived.JoinedTies
import Derived.KernelRfl
namespace Go.Proofs.Ytlelfifbmckhgaa
/- THE CELL 'sum', in the pinned program and in every row, IS THE sha256 OF THE DUMP (.gsa) THAT YtlelfifbmckhgaaProg.lean LOADS. Nothing in Lean hashes anything: it is a label: what it is worth is what the hold of that sum in a sandbox is worth. -/
noncomputable def Try.pinned : Pinned := { name := "ytlelfifbmckhgaa", sum := "4d6d1ddede60c5c67596cf77519afa479162afa43c92335afab175156031ab6f", checked := Try.checked }
namespace Rows
def none {H : Type} : Left H := { results := [], args := [] }

/-- 'weirkeep.CloseMost': WHATEVER THE INPUT: true; the input reads as it did. -/
def closeMostSpec : ChangeSpec := { name := "closeMost", fn := fun _ => fun
  | [d1, d2, d3] => { results := [.lit (.bool true)], args := [d1, d2, d3] }
  | _ => none }
def closeMostRow : OpenClaim := { program := "ytlelfifbmckhgaa", sum := "4d6d1ddede60c5c67596cf77519afa479162afa43c92335afab175156031ab6f", func := "weirmaster/weirkeep.CloseMost", spec := "closeMost", unfollowed := true, recurses := true, apart := false }
def CloseMostSaid : Prop := closeMostRow.holds Try.pinned (OpenSpec.ofChange closeMostSpec)

/-- ITS FALSE NEIGHBOUR: 'it returns false'. Refute it at one input. -/
def closeMostWrong : ChangeSpec := { name := "closeMost", fn := fun _ => fun
  | [d1, d2, d3] => { results := [.lit (.bool false)], args := [d1, d2, d3] }
  | _ => none }
def CloseMostWrongFalsely : Prop := closeMostRow.holds Try.pinned (OpenSpec.ofChange closeMostWrong)

/-- 'weirkeep.CheapRises': WHATEVER THE INPUT: true; the input reads as it did. -/
def cheapRisesSpec : ChangeSpec := { name := "cheapRises", fn := fun _ => fun
  | [d1, d2, d3] => { results := [.lit (.bool true)], args := [d1, d2, d3] }
  | _ => none }
def cheapRisesRow : OpenClaim := { program := "ytlelfifbmckhgaa", sum := "4d6d1ddede60c5c67596cf77519afa479162afa43c92335afab175156031ab6f", func := "weirmaster/weirkeep.CheapRises", spec := "cheapRises", apart := false }
def CheapRisesSaid : Prop := cheapRisesRow.holds Try.pinned (OpenSpec.ofChange cheapRisesSpec)

/-- ITS FALSE NEIGHBOUR: 'it returns false'. Refute it at one input. -/
def cheapRisesWrong : ChangeSpec := { name := "cheapRises", fn := fun _ => fun
  | [d1, d2, d3] => { results := [.lit (.bool false)], args := [d1, d2, d3] }
  | _ => none }
def CheapRisesWrongFalsely : Prop := cheapRisesRow.holds Try.pinned (OpenSpec.ofChange cheapRisesWrong)

/-- 'weirkeep.CheapFirst': WHATEVER THE INPUT: true; the input reads as it did. -/
def cheapFirstSpec : ChangeSpec := { name := "cheapFirst", fn := fun _ => fun
  | [d1, d2] => { results := [.lit (.bool true)], args := [d1, d2] }
  | _ => none }
def cheapFirstRow : OpenClaim := { program := "ytlelfifbmckhgaa", sum := "4d6d1ddede60c5c67596cf77519afa479162afa43c92335afab175156031ab6f", func := "weirmaster/weirkeep.CheapFirst", spec := "cheapFirst", apart := false }
def CheapFirstSaid : Prop := cheapFirstRow.holds Try.pinned (OpenSpec.ofChange cheapFirstSpec)

/-- ITS FALSE NEIGHBOUR: 'it returns false'. Refute it at one input. -/
def cheapFirstWrong : ChangeSpec := { name := "cheapFirst", fn := fun _ => fun
  | [d1, d2] => { results := [.lit (.bool false)], args := [d1, d2] }
  | _ => none }
def CheapFirstWrongFalsely : Prop := cheapFirstRow.holds Try.pinned (OpenSpec.ofChange cheapFirstWrong)

/-- 'weirkeep.CheapNone': WHATEVER THE INPUT: true; the input reads as it did. -/
def cheapNoneSpec : ChangeSpec := { name := "cheapNone", fn := fun _ => fun
  | [d1, d2, d3] => { results := [.lit (.bool true)], args := [d1, d2, d3] }
  | _ => none }
def cheapNoneRow : OpenClaim := { program := "ytlelfifbmckhgaa", sum := "4d6d1ddede60c5c67596cf77519afa479162afa43c92335afab175156031ab6f", func := "weirmaster/weirkeep.CheapNone", spec := "cheapNone", apart := false }
def CheapNoneSaid : Prop := cheapNoneRow.holds Try.pinned (OpenSpec.ofChange cheapNoneSpec)

/-- ITS FALSE NEIGHBOUR: 'it returns false'. Refute it at one input. -/
def cheapNoneWrong : ChangeSpec := { name := "cheapNone", fn := fun _ => fun
  | [d1, d2, d3] => { results := [.lit (.bool false)], args := [d1, d2, d3] }
  | _ => none }
def CheapNoneWrongFalsely : Prop := cheapNoneRow.holds Try.pinned (OpenSpec.ofChange cheapNoneWrong)

/-- 'weirkeep.PathsLess': WHATEVER THE INPUT: true; the input reads as it did. -/
def pathsLessSpec : ChangeSpec := { name := "pathsLess", fn := fun _ => fun
  | [d1, d2] => { results := [.lit (.bool true)], args := [d1, d2] }
  | _ => none }
def pathsLessRow : OpenClaim := { program := "ytlelfifbmckhgaa", sum := "4d6d1ddede60c5c67596cf77519afa479162afa43c92335afab175156031ab6f", func := "weirmaster/weirkeep.PathsLess", spec := "pathsLess", unfollowed := true, recurses := true, apart := false }
def PathsLessSaid : Prop := pathsLessRow.holds Try.pinned (OpenSpec.ofChange pathsLessSpec)

/-- ITS FALSE NEIGHBOUR: 'it returns false'. Refute it at one input. -/
def pathsLessWrong : ChangeSpec := { name := "pathsLess", fn := fun _ => fun
  | [d1, d2] => { results := [.lit (.bool false)], args := [d1, d2] }
  | _ => none }
def PathsLessWrongFalsely : Prop := pathsLessRow.holds Try.pinned (OpenSpec.ofChange pathsLessWrong)

/-- 'weirkeep.PathsMenger': WHATEVER THE INPUT: true; the input reads as it did. -/
def pathsMengerSpec : ChangeSpec := { name := "pathsMenger", fn := fun _ => fun
  | [d] => { results := [.lit (.bool true)], args := [d] }
  | _ => none }
def pathsMengerRow : OpenClaim := { program := "ytlelfifbmckhgaa", sum := "4d6d1ddede60c5c67596cf77519afa479162afa43c92335afab175156031ab6f", func := "weirmaster/weirkeep.PathsMenger", spec := "pathsMenger", unfollowed := true, recurses := true, apart := false }
def PathsMengerSaid : Prop := pathsMengerRow.holds Try.pinned (OpenSpec.ofChange pathsMengerSpec)

/-- ITS FALSE NEIGHBOUR: 'it returns false'. Refute it at one input. -/
def pathsMengerWrong : ChangeSpec := { name := "pathsMenger", fn := fun _ => fun
  | [d] => { results := [.lit (.bool false)], args := [d] }
  | _ => none }
def PathsMengerWrongFalsely : Prop := pathsMengerRow.holds Try.pinned (OpenSpec.ofChange pathsMengerWrong)

/-- 'weirkeep.PathsNodes': WHATEVER THE INPUT: true; the input reads as it did. -/
def pathsNodesSpec : ChangeSpec := { name := "pathsNodes", fn := fun _ => fun
  | [d] => { results := [.lit (.bool true)], args := [d] }
  | _ => none }
def pathsNodesRow : OpenClaim := { program := "ytlelfifbmckhgaa", sum := "4d6d1ddede60c5c67596cf77519afa479162afa43c92335afab175156031ab6f", func := "weirmaster/weirkeep.PathsNodes", spec := "pathsNodes", unfollowed := true, recurses := true, apart := false }
def PathsNodesSaid : Prop := pathsNodesRow.holds Try.pinned (OpenSpec.ofChange pathsNodesSpec)

/-- ITS FALSE NEIGHBOUR: 'it returns false'. Refute it at one input. -/
def pathsNodesWrong : ChangeSpec := { name := "pathsNodes", fn := fun _ => fun
  | [d] => { results := [.lit (.bool false)], args := [d] }
  | _ => none }
def PathsNodesWrongFalsely : Prop := pathsNodesRow.holds Try.pinned (OpenSpec.ofChange pathsNodesWrong)

/-- 'weirkeep.DoubleBack': WHATEVER THE INPUT: true; the input reads as it did. -/
def doubleBackSpec : ChangeSpec := { name := "doubleBack", fn := fun _ => fun
  | [d] => { results := [.lit (.bool true)], args := [d] }
  | _ => none }
def doubleBackRow : OpenClaim := { program := "ytlelfifbmckhgaa", sum := "4d6d1ddede60c5c67596cf77519afa479162afa43c92335afab175156031ab6f", func := "weirmaster/weirkeep.DoubleBack", spec := "doubleBack", recurses := true, apart := false }
def DoubleBackSaid : Prop := doubleBackRow.holds Try.pinned (OpenSpec.ofChange doubleBackSpec)

/-- ITS FALSE NEIGHBOUR: 'it returns false'. Refute it at one input. -/
def doubleBackWrong : ChangeSpec := { name := "doubleBack", fn := fun _ => fun
  | [d] => { results := [.lit (.bool false)], args := [d] }
  | _ => none }
def DoubleBackWrongFalsely : Prop := doubleBackRow.holds Try.pinned (OpenSpec.ofChange doubleBackWrong)

/-- 'weirkeep.DoubleAdds': WHATEVER THE INPUT: true; the input reads as it did. -/
def doubleAddsSpec : ChangeSpec := { name := "doubleAdds", fn := fun _ => fun
  | [d1, d2, d3, d4] => { results := [.lit (.bool true)], args := [d1, d2, d3, d4] }
  | _ => none }
def doubleAddsRow : OpenClaim := { program := "ytlelfifbmckhgaa", sum := "4d6d1ddede60c5c67596cf77519afa479162afa43c92335afab175156031ab6f", func := "weirmaster/weirkeep.DoubleAdds", spec := "doubleAdds", recurses := true, apart := false }
def DoubleAddsSaid : Prop := doubleAddsRow.holds Try.pinned (OpenSpec.ofChange doubleAddsSpec)

/-- ITS FALSE NEIGHBOUR: 'it returns false'. Refute it at one input. -/
def doubleAddsWrong : ChangeSpec := { name := "doubleAdds", fn := fun _ => fun
  | [d1, d2, d3, d4] => { results := [.lit (.bool false)], args := [d1, d2, d3, d4] }
  | _ => none }
def DoubleAddsWrongFalsely : Prop := doubleAddsRow.holds Try.pinned (OpenSpec.ofChange doubleAddsWrong)

/-- 'weirkeep.GaleSums': WHATEVER THE INPUT: true; the input reads as it did. -/
def galeSumsSpec : ChangeSpec := { name := "galeSums", fn := fun _ => fun
  | [d1, d2] => { results := [.lit (.bool true)], args := [d1, d2] }
  | _ => none }
def galeSumsRow : OpenClaim := { program := "ytlelfifbmckhgaa", sum := "4d6d1ddede60c5c67596cf77519afa479162afa43c92335afab175156031ab6f", func := "weirmaster/weirkeep.GaleSums", spec := "galeSums", unfollowed := true, recurses := true, apart := false }
def GaleSumsSaid : Prop := galeSumsRow.holds Try.pinned (OpenSpec.ofChange galeSumsSpec)

/-- ITS FALSE NEIGHBOUR: 'it returns false'. Refute it at one input. -/
def galeSumsWrong : ChangeSpec := { name := "galeSums", fn := fun _ => fun
  | [d1, d2] => { results := [.lit (.bool false)], args := [d1, d2] }
  | _ => none }
def GaleSumsWrongFalsely : Prop := galeSumsRow.holds Try.pinned (OpenSpec.ofChange galeSumsWrong)

/-- 'weirkeep.GaleFlow': WHATEVER THE INPUT: true; the input reads as it did. -/
def galeFlowSpec : ChangeSpec := { name := "galeFlow", fn := fun _ => fun
  | [d1, d2] => { results := [.lit (.bool true)], args := [d1, d2] }
  | _ => none }
def galeFlowRow : OpenClaim := { program := "ytlelfifbmckhgaa", sum := "4d6d1ddede60c5c67596cf77519afa479162afa43c92335afab175156031ab6f", func := "weirmaster/weirkeep.GaleFlow", spec := "galeFlow", unfollowed := true, recurses := true, apart := false }
def GaleFlowSaid : Prop := galeFlowRow.holds Try.pinned (OpenSpec.ofChange galeFlowSpec)

/-- ITS FALSE NEIGHBOUR: 'it returns false'. Refute it at one input. -/
def galeFlowWrong : ChangeSpec := { name := "galeFlow", fn := fun _ => fun
  | [d1, d2] => { results := [.lit (.bool false)], args := [d1, d2] }
  | _ => none }
def GaleFlowWrongFalsely : Prop := galeFlowRow.holds Try.pinned (OpenSpec.ofChange galeFlowWrong)

/-- 'weirtop.TopTable': WHATEVER THE INPUT: true; the input reads as it did. -/
def topTableSpec : ChangeSpec := { name := "topTable", fn := fun _ => fun
  | [d1, d2] => { results := [.lit (.bool true)], args := [d1, d2] }
  | _ => none }
def topTableRow : OpenClaim := { program := "ytlelfifbmckhgaa", sum := "4d6d1ddede60c5c67596cf77519afa479162afa43c92335afab175156031ab6f", func := "weirmaster/weirtop.TopTable", spec := "topTable", recurses := true, apart := false }
def TopTableSaid : Prop := topTableRow.holds Try.pinned (OpenSpec.ofChange topTableSpec)

/-- ITS FALSE NEIGHBOUR: 'it returns false'. Refute it at one input. -/
def topTableWrong : ChangeSpec := { name := "topTable", fn := fun _ => fun
  | [d1, d2] => { results := [.lit (.bool false)], args := [d1, d2] }
  | _ => none }
def TopTableWrongFalsely : Prop := topTableRow.holds Try.pinned (OpenSpec.ofChange topTableWrong)

/- THE SECOND FORM. 'bulk': how many values and letters a reading holds, each counted each time it is reached (what is shared counts as often as it is met; a slice's spare places count too). A statement '..UptoSaid' is the law's where the arguments, and the package variables that the reading takes, are together of bulk at most 1048576: NARROWER than '..Said'. Prove '..Said' where nothing that the law and all that it calls make is longer than what came in: it says more and counts as full. Else prove '..UptoSaid'. A law counts once. -/
mutual
def uptoBulk {H : Type} : DataW H → Nat
  | .lit (.string bytes) => bytes.length + 1
  | .lit _ => 1
  | .nil => 1
  | .ptr d => uptoBulk d + 1
  | .slice elems spare => uptoBulkAll elems + uptoBulkAll spare + 1
  | .agg parts => uptoBulkAll parts + 1
  | .iface _ d => uptoBulk d + 1
  | .map entries => uptoBulkEntries entries + 1
  | .held _ => 1
def uptoBulkAll {H : Type} : List (DataW H) → Nat
  | [] => 0
  | d :: r => uptoBulk d + uptoBulkAll r
def uptoBulkEntries {H : Type} : List (Lit × DataW H) → Nat
  | [] => 0
  | x :: r => uptoBulkEntry x + uptoBulkEntries r
def uptoBulkEntry {H : Type} : Lit × DataW H → Nat
  | (.string bytes, d) => bytes.length + uptoBulk d + 1
  | (_, d) => uptoBulk d + 1
 end
def uptoSmall : (H : Type) → List (DataW H) → Bool := fun _ ds => decide (uptoBulkAll ds ≤ 1048576)
def OpenSpec.upto (s : _root_.Go.ChangeSpec) : _root_.Go.OpenSpec := { _root_.Go.OpenSpec.ofChange s with cond := some uptoSmall }

/-- 'weirkeep.CloseMost', WHERE WHAT IT READS IS OF BULK AT MOST 1048576: true; the input reads as it did. -/
def closeMostUptoRow : OpenClaim := { program := "ytlelfifbmckhgaa", sum := "4d6d1ddede60c5c67596cf77519afa479162afa43c92335afab175156031ab6f", func := "weirmaster/weirkeep.CloseMost", spec := "closeMost", unfollowed := true, recurses := true, apart := false, narrowed := true }
def CloseMostUptoSaid : Prop := closeMostUptoRow.holds Try.pinned (OpenSpec.upto closeMostSpec)

/-- 'weirkeep.CheapRises', WHERE WHAT IT READS IS OF BULK AT MOST 1048576: true; the input reads as it did. -/
def cheapRisesUptoRow : OpenClaim := { program := "ytlelfifbmckhgaa", sum := "4d6d1ddede60c5c67596cf77519afa479162afa43c92335afab175156031ab6f", func := "weirmaster/weirkeep.CheapRises", spec := "cheapRises", apart := false, narrowed := true }
def CheapRisesUptoSaid : Prop := cheapRisesUptoRow.holds Try.pinned (OpenSpec.upto cheapRisesSpec)

/-- 'weirkeep.CheapFirst', WHERE WHAT IT READS IS OF BULK AT MOST 1048576: true; the input reads as it did. -/
def cheapFirstUptoRow : OpenClaim := { program := "ytlelfifbmckhgaa", sum := "4d6d1ddede60c5c67596cf77519afa479162afa43c92335afab175156031ab6f", func := "weirmaster/weirkeep.CheapFirst", spec := "cheapFirst", apart := false, narrowed := true }
def CheapFirstUptoSaid : Prop := cheapFirstUptoRow.holds Try.pinned (OpenSpec.upto cheapFirstSpec)

/-- 'weirkeep.CheapNone', WHERE WHAT IT READS IS OF BULK AT MOST 1048576: true; the input reads as it did. -/
def cheapNoneUptoRow : OpenClaim := { program := "ytlelfifbmckhgaa", sum := "4d6d1ddede60c5c67596cf77519afa479162afa43c92335afab175156031ab6f", func := "weirmaster/weirkeep.CheapNone", spec := "cheapNone", apart := false, narrowed := true }
def CheapNoneUptoSaid : Prop := cheapNoneUptoRow.holds Try.pinned (OpenSpec.upto cheapNoneSpec)

/-- 'weirkeep.PathsLess', WHERE WHAT IT READS IS OF BULK AT MOST 1048576: true; the input reads as it did. -/
def pathsLessUptoRow : OpenClaim := { program := "ytlelfifbmckhgaa", sum := "4d6d1ddede60c5c67596cf77519afa479162afa43c92335afab175156031ab6f", func := "weirmaster/weirkeep.PathsLess", spec := "pathsLess", unfollowed := true, recurses := true, apart := false, narrowed := true }
def PathsLessUptoSaid : Prop := pathsLessUptoRow.holds Try.pinned (OpenSpec.upto pathsLessSpec)

/-- 'weirkeep.PathsMenger', WHERE WHAT IT READS IS OF BULK AT MOST 1048576: true; the input reads as it did. -/
def pathsMengerUptoRow : OpenClaim := { program := "ytlelfifbmckhgaa", sum := "4d6d1ddede60c5c67596cf77519afa479162afa43c92335afab175156031ab6f", func := "weirmaster/weirkeep.PathsMenger", spec := "pathsMenger", unfollowed := true, recurses := true, apart := false, narrowed := true }
def PathsMengerUptoSaid : Prop := pathsMengerUptoRow.holds Try.pinned (OpenSpec.upto pathsMengerSpec)

/-- 'weirkeep.PathsNodes', WHERE WHAT IT READS IS OF BULK AT MOST 1048576: true; the input reads as it did. -/
def pathsNodesUptoRow : OpenClaim := { program := "ytlelfifbmckhgaa", sum := "4d6d1ddede60c5c67596cf77519afa479162afa43c92335afab175156031ab6f", func := "weirmaster/weirkeep.PathsNodes", spec := "pathsNodes", unfollowed := true, recurses := true, apart := false, narrowed := true }
def PathsNodesUptoSaid : Prop := pathsNodesUptoRow.holds Try.pinned (OpenSpec.upto pathsNodesSpec)

/-- 'weirkeep.DoubleBack', WHERE WHAT IT READS IS OF BULK AT MOST 1048576: true; the input reads as it did. -/
def doubleBackUptoRow : OpenClaim := { program := "ytlelfifbmckhgaa", sum := "4d6d1ddede60c5c67596cf77519afa479162afa43c92335afab175156031ab6f", func := "weirmaster/weirkeep.DoubleBack", spec := "doubleBack", recurses := true, apart := false, narrowed := true }
def DoubleBackUptoSaid : Prop := doubleBackUptoRow.holds Try.pinned (OpenSpec.upto doubleBackSpec)

/-- 'weirkeep.DoubleAdds', WHERE WHAT IT READS IS OF BULK AT MOST 1048576: true; the input reads as it did. -/
def doubleAddsUptoRow : OpenClaim := { program := "ytlelfifbmckhgaa", sum := "4d6d1ddede60c5c67596cf77519afa479162afa43c92335afab175156031ab6f", func := "weirmaster/weirkeep.DoubleAdds", spec := "doubleAdds", recurses := true, apart := false, narrowed := true }
def DoubleAddsUptoSaid : Prop := doubleAddsUptoRow.holds Try.pinned (OpenSpec.upto doubleAddsSpec)

/-- 'weirkeep.GaleSums', WHERE WHAT IT READS IS OF BULK AT MOST 1048576: true; the input reads as it did. -/
def galeSumsUptoRow : OpenClaim := { program := "ytlelfifbmckhgaa", sum := "4d6d1ddede60c5c67596cf77519afa479162afa43c92335afab175156031ab6f", func := "weirmaster/weirkeep.GaleSums", spec := "galeSums", unfollowed := true, recurses := true, apart := false, narrowed := true }
def GaleSumsUptoSaid : Prop := galeSumsUptoRow.holds Try.pinned (OpenSpec.upto galeSumsSpec)

/-- 'weirkeep.GaleFlow', WHERE WHAT IT READS IS OF BULK AT MOST 1048576: true; the input reads as it did. -/
def galeFlowUptoRow : OpenClaim := { program := "ytlelfifbmckhgaa", sum := "4d6d1ddede60c5c67596cf77519afa479162afa43c92335afab175156031ab6f", func := "weirmaster/weirkeep.GaleFlow", spec := "galeFlow", unfollowed := true, recurses := true, apart := false, narrowed := true }
def GaleFlowUptoSaid : Prop := galeFlowUptoRow.holds Try.pinned (OpenSpec.upto galeFlowSpec)

/-- 'weirtop.TopTable', WHERE WHAT IT READS IS OF BULK AT MOST 1048576: true; the input reads as it did. -/
def topTableUptoRow : OpenClaim := { program := "ytlelfifbmckhgaa", sum := "4d6d1ddede60c5c67596cf77519afa479162afa43c92335afab175156031ab6f", func := "weirmaster/weirtop.TopTable", spec := "topTable", recurses := true, apart := false, narrowed := true }
def TopTableUptoSaid : Prop := topTableUptoRow.holds Try.pinned (OpenSpec.upto topTableSpec)

end Rows
end Go.Proofs.Ytlelfifbmckhgaa
