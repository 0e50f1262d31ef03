/-
  No cell of these rows narrows 'for every input' (looked for: loops, veiled, ifaces, maps, wideKeys, modest, calm, conditions, laid).
  DERIVED. THE GIVEN ROWS OF THIS SEAT. 3 by the template 'for every input the law returns true; each argument reads behind the call as it read before'; 0 by the template 'total and deterministic' (their statements: YtgkcmjmofcekmaaTotals.lean).
  GIVEN WITH THE SEED: the statements are not yours to turn. If you find one false, say at which input.
  Laid BY PROGRAM, IN A SANDBOX (cutbox-rows.mjs): the forced cells as the released guide's own fill.sh prints them over the translation cfa8ad8124dd936f… (all of the seat's roots in one cut). By AI agents, Wed Nov 11 2026. No macro, syntax, notation, axiom, sorry.
-/
import Derived.Test.YtgkcmjmofcekmaaChecked
import GoSem.Claim
import GoSem.ClaimJoined
import GoSem.ClaimMapViews
import Derived.JoinedTies
import Derived.KernelRfl
namespace Go.Proofs.Ytgkcmjmofcekmaa
/- THE CELL 'sum', in the pinned program and in every row, IS THE sha256 OF THE DUMP (.gsa) THAT YtgkcmjmofcekmaaProg.lean LOADS. Nothing in Lean hashes anything: it is a label: what it is worth is what the hold of that sum in a sandbox is worth. -/
noncomputable def Try.pinned : Pinned := { name := "ytgkcmjmofcekmaa", sum := "cfa8ad8124dd936ffb6d14d27f19300f7d7213912421d03fbcd3373cf0637040", checked := Try.checked }
namespace Rows
def none {H : Type} : Left H := { results := [], args := [] }

/-- 'weirkeep.MostCut': WHATEVER THE INPUT: true; the input reads as it did. -/
def mostCutSpec : ChangeSpec := { name := "mostCut", fn := fun _ => fun
  | [d1, d2, d3] => { results := [.lit (.bool true)], args := [d1, d2, d3] }
  | _ => none }
def mostCutRow : OpenClaim := { program := "ytgkcmjmofcekmaa", sum := "cfa8ad8124dd936ffb6d14d27f19300f7d7213912421d03fbcd3373cf0637040", func := "weirmaster/weirkeep.MostCut", spec := "mostCut", apart := false }
def MostCutSaid : Prop := mostCutRow.holds Try.pinned (OpenSpec.ofChange mostCutSpec)

/-- ITS FALSE NEIGHBOUR: 'it returns false'. Refute it at one input. -/
def mostCutWrong : ChangeSpec := { name := "mostCut", fn := fun _ => fun
  | [d1, d2, d3] => { results := [.lit (.bool false)], args := [d1, d2, d3] }
  | _ => none }
def MostCutWrongFalsely : Prop := mostCutRow.holds Try.pinned (OpenSpec.ofChange mostCutWrong)

/-- 'weirkeep.PushHigh': WHATEVER THE INPUT: true; the input reads as it did. -/
def pushHighSpec : ChangeSpec := { name := "pushHigh", fn := fun _ => fun
  | [d1, d2, d3] => { results := [.lit (.bool true)], args := [d1, d2, d3] }
  | _ => none }
def pushHighRow : OpenClaim := { program := "ytgkcmjmofcekmaa", sum := "cfa8ad8124dd936ffb6d14d27f19300f7d7213912421d03fbcd3373cf0637040", func := "weirmaster/weirkeep.PushHigh", spec := "pushHigh", apart := false }
def PushHighSaid : Prop := pushHighRow.holds Try.pinned (OpenSpec.ofChange pushHighSpec)

/-- ITS FALSE NEIGHBOUR: 'it returns false'. Refute it at one input. -/
def pushHighWrong : ChangeSpec := { name := "pushHigh", fn := fun _ => fun
  | [d1, d2, d3] => { results := [.lit (.bool false)], args := [d1, d2, d3] }
  | _ => none }
def PushHighWrongFalsely : Prop := pushHighRow.holds Try.pinned (OpenSpec.ofChange pushHighWrong)

/-- 'weirkeep.PushEnds': WHATEVER THE INPUT: true; the input reads as it did. -/
def pushEndsSpec : ChangeSpec := { name := "pushEnds", fn := fun _ => fun
  | [d1, d2] => { results := [.lit (.bool true)], args := [d1, d2] }
  | _ => none }
def pushEndsRow : OpenClaim := { program := "ytgkcmjmofcekmaa", sum := "cfa8ad8124dd936ffb6d14d27f19300f7d7213912421d03fbcd3373cf0637040", func := "weirmaster/weirkeep.PushEnds", spec := "pushEnds", apart := false }
def PushEndsSaid : Prop := pushEndsRow.holds Try.pinned (OpenSpec.ofChange pushEndsSpec)

/-- ITS FALSE NEIGHBOUR: 'it returns false'. Refute it at one input. -/
def pushEndsWrong : ChangeSpec := { name := "pushEnds", fn := fun _ => fun
  | [d1, d2] => { results := [.lit (.bool false)], args := [d1, d2] }
  | _ => none }
def PushEndsWrongFalsely : Prop := pushEndsRow.holds Try.pinned (OpenSpec.ofChange pushEndsWrong)

/- THE SECOND FORM. 'bulk': how many values and letters a reading holds, each counted each time it is reached (what is shared counts as often as it is met; a slice's spare places count too). A statement '..UptoSaid' is the law's where the arguments, and the package variables that the reading takes, are together of bulk at most 1048576: NARROWER than '..Said'. Prove '..Said' where nothing that the law and all that it calls make is longer than what came in: it says more and counts as full. Else prove '..UptoSaid'. A law counts once. -/
mutual
def uptoBulk {H : Type} : DataW H → Nat
  | .lit (.string bytes) => bytes.length + 1
  | .lit _ => 1
  | .nil => 1
  | .ptr d => uptoBulk d + 1
  | .slice elems spare => uptoBulkAll elems + uptoBulkAll spare + 1
  | .agg parts => uptoBulkAll parts + 1
  | .iface _ d => uptoBulk d + 1
  | .map entries => uptoBulkEntries entries + 1
  | .held _ => 1
def uptoBulkAll {H : Type} : List (DataW H) → Nat
  | [] => 0
  | d :: r => uptoBulk d + uptoBulkAll r
def uptoBulkEntries {H : Type} : List (Lit × DataW H) → Nat
  | [] => 0
  | x :: r => uptoBulkEntry x + uptoBulkEntries r
def uptoBulkEntry {H : Type} : Lit × DataW H → Nat
  | (.string bytes, d) => bytes.length + uptoBulk d + 1
  | (_, d) => uptoBulk d + 1
 end
def uptoSmall : (H : Type) → List (DataW H) → Bool := fun _ ds => decide (uptoBulkAll ds ≤ 1048576)
def OpenSpec.upto (s : _root_.Go.ChangeSpec) : _root_.Go.OpenSpec := { _root_.Go.OpenSpec.ofChange s with cond := some uptoSmall }

/-- 'weirkeep.MostCut', WHERE WHAT IT READS IS OF BULK AT MOST 1048576: true; the input reads as it did. -/
def mostCutUptoRow : OpenClaim := { program := "ytgkcmjmofcekmaa", sum := "cfa8ad8124dd936ffb6d14d27f19300f7d7213912421d03fbcd3373cf0637040", func := "weirmaster/weirkeep.MostCut", spec := "mostCut", apart := false, narrowed := true }
def MostCutUptoSaid : Prop := mostCutUptoRow.holds Try.pinned (OpenSpec.upto mostCutSpec)

/-- 'weirkeep.PushHigh', WHERE WHAT IT READS IS OF BULK AT MOST 1048576: true; the input reads as it did. -/
def pushHighUptoRow : OpenClaim := { program := "ytgkcmjmofcekmaa", sum := "cfa8ad8124dd936ffb6d14d27f19300f7d7213912421d03fbcd3373cf0637040", func := "weirmaster/weirkeep.PushHigh", spec := "pushHigh", apart := false, narrowed := true }
def PushHighUptoSaid : Prop := pushHighUptoRow.holds Try.pinned (OpenSpec.upto pushHighSpec)

/-- 'weirkeep.PushEnds', WHERE WHAT IT READS IS OF BULK AT MOST 1048576: true; the input reads as it did. -/
def pushEndsUptoRow : OpenClaim := { program := "ytgkcmjmofcekmaa", sum := "cfa8ad8124dd936ffb6d14d27f19300f7d7213912421d03fbcd3373cf0637040", func := "weirmaster/weirkeep.PushEnds", spec := "pushEnds", apart := false, narrowed := true }
def PushEndsUptoSaid : Prop := pushEndsUptoRow.holds Try.pinned (OpenSpec.upto pushEndsSpec)

end Rows
end Go.Proofs.Ytgkcmjmofcekmaa
