/-
  No cell of these rows narrows 'for every input' (looked for: loops, veiled, ifaces, maps, wideKeys, modest, calm, conditions, laid).
  DERIVED. THE GIVEN ROWS OF THIS SEAT. 8 by the template 'for every input the law returns true; each argument reads behind the call as it read before'; 0 by the template 'total and deterministic' (their statements: YtolbmdogdjccmaaTotals.lean).
  GIVEN WITH THE SEED: the statements are not yours to turn. If you find one false, say at which input.
  Laid BY PROGRAM, IN A SANDBOX (cutbox-rows.mjs): the forced cells as the released guide's own fill.sh prints them over the translation fd4b89736ad86675… (all of the seat's roots in one cut). By AI agents, Wed Nov 11 2026. No macro, syntax, notation, axiom, sorry.
-/
import Derived.Test.YtolbmdogdjccmaaChecked
import GoSem.Claim
import GoSem.ClaimJoined
import GoSem.ClaimMapViews
import Derived.JoinedTies
import Derived.KernelRfl
namespace Go.Proofs.Ytolbmdogdjccmaa
/- THE CELL 'sum', in the pinned program and in every row, IS THE sha256 OF THE DUMP (.gsa) THAT YtolbmdogdjccmaaProg.lean LOADS. Nothing in Lean hashes anything: it is a label: what it is worth is what the hold of that sum in a sandbox is worth. -/
noncomputable def Try.pinned : Pinned := { name := "ytolbmdogdjccmaa", sum := "fd4b89736ad86675e5fec9ac2da264f5816a9372b30ff81f22a1cc3405d4baeb", checked := Try.checked }
namespace Rows
def none {H : Type} : Left H := { results := [], args := [] }

/-- 'weirkeep.GraphOwn': WHATEVER THE INPUT: true; the input reads as it did. -/
def graphOwnSpec : ChangeSpec := { name := "graphOwn", fn := fun _ => fun
  | [d1, d2] => { results := [.lit (.bool true)], args := [d1, d2] }
  | _ => none }
def graphOwnRow : OpenClaim := { program := "ytolbmdogdjccmaa", sum := "fd4b89736ad86675e5fec9ac2da264f5816a9372b30ff81f22a1cc3405d4baeb", func := "weirmaster/weirkeep.GraphOwn", spec := "graphOwn", unfollowed := true, recurses := true, apart := false }
def GraphOwnSaid : Prop := graphOwnRow.holds Try.pinned (OpenSpec.ofChange graphOwnSpec)

/-- ITS FALSE NEIGHBOUR: 'it returns false'. Refute it at one input. -/
def graphOwnWrong : ChangeSpec := { name := "graphOwn", fn := fun _ => fun
  | [d1, d2] => { results := [.lit (.bool false)], args := [d1, d2] }
  | _ => none }
def GraphOwnWrongFalsely : Prop := graphOwnRow.holds Try.pinned (OpenSpec.ofChange graphOwnWrong)

/-- 'weirkeep.PushOwn': WHATEVER THE INPUT: true; the input reads as it did. -/
def pushOwnSpec : ChangeSpec := { name := "pushOwn", fn := fun _ => fun
  | [d1, d2] => { results := [.lit (.bool true)], args := [d1, d2] }
  | _ => none }
def pushOwnRow : OpenClaim := { program := "ytolbmdogdjccmaa", sum := "fd4b89736ad86675e5fec9ac2da264f5816a9372b30ff81f22a1cc3405d4baeb", func := "weirmaster/weirkeep.PushOwn", spec := "pushOwn", apart := false }
def PushOwnSaid : Prop := pushOwnRow.holds Try.pinned (OpenSpec.ofChange pushOwnSpec)

/-- ITS FALSE NEIGHBOUR: 'it returns false'. Refute it at one input. -/
def pushOwnWrong : ChangeSpec := { name := "pushOwn", fn := fun _ => fun
  | [d1, d2] => { results := [.lit (.bool false)], args := [d1, d2] }
  | _ => none }
def PushOwnWrongFalsely : Prop := pushOwnRow.holds Try.pinned (OpenSpec.ofChange pushOwnWrong)

/-- 'weirkeep.FlowOwn': WHATEVER THE INPUT: true; the input reads as it did. -/
def flowOwnSpec : ChangeSpec := { name := "flowOwn", fn := fun _ => fun
  | [d1, d2] => { results := [.lit (.bool true)], args := [d1, d2] }
  | _ => none }
def flowOwnRow : OpenClaim := { program := "ytolbmdogdjccmaa", sum := "fd4b89736ad86675e5fec9ac2da264f5816a9372b30ff81f22a1cc3405d4baeb", func := "weirmaster/weirkeep.FlowOwn", spec := "flowOwn", unfollowed := true, recurses := true, apart := false }
def FlowOwnSaid : Prop := flowOwnRow.holds Try.pinned (OpenSpec.ofChange flowOwnSpec)

/-- ITS FALSE NEIGHBOUR: 'it returns false'. Refute it at one input. -/
def flowOwnWrong : ChangeSpec := { name := "flowOwn", fn := fun _ => fun
  | [d1, d2] => { results := [.lit (.bool false)], args := [d1, d2] }
  | _ => none }
def FlowOwnWrongFalsely : Prop := flowOwnRow.holds Try.pinned (OpenSpec.ofChange flowOwnWrong)

/-- 'weirkeep.RepairOwn': WHATEVER THE INPUT: true; the input reads as it did. -/
def repairOwnSpec : ChangeSpec := { name := "repairOwn", fn := fun _ => fun
  | [d1, d2, d3] => { results := [.lit (.bool true)], args := [d1, d2, d3] }
  | _ => none }
def repairOwnRow : OpenClaim := { program := "ytolbmdogdjccmaa", sum := "fd4b89736ad86675e5fec9ac2da264f5816a9372b30ff81f22a1cc3405d4baeb", func := "weirmaster/weirkeep.RepairOwn", spec := "repairOwn", unfollowed := true, recurses := true, apart := false }
def RepairOwnSaid : Prop := repairOwnRow.holds Try.pinned (OpenSpec.ofChange repairOwnSpec)

/-- ITS FALSE NEIGHBOUR: 'it returns false'. Refute it at one input. -/
def repairOwnWrong : ChangeSpec := { name := "repairOwn", fn := fun _ => fun
  | [d1, d2, d3] => { results := [.lit (.bool false)], args := [d1, d2, d3] }
  | _ => none }
def RepairOwnWrongFalsely : Prop := repairOwnRow.holds Try.pinned (OpenSpec.ofChange repairOwnWrong)

/-- 'weirkeep.StoreOwn': WHATEVER THE INPUT: true; the input reads as it did. -/
def storeOwnSpec : ChangeSpec := { name := "storeOwn", fn := fun _ => fun
  | [d] => { results := [.lit (.bool true)], args := [d] }
  | _ => none }
def storeOwnRow : OpenClaim := { program := "ytolbmdogdjccmaa", sum := "fd4b89736ad86675e5fec9ac2da264f5816a9372b30ff81f22a1cc3405d4baeb", func := "weirmaster/weirkeep.StoreOwn", spec := "storeOwn", unfollowed := true, recurses := true, apart := false }
def StoreOwnSaid : Prop := storeOwnRow.holds Try.pinned (OpenSpec.ofChange storeOwnSpec)

/-- ITS FALSE NEIGHBOUR: 'it returns false'. Refute it at one input. -/
def storeOwnWrong : ChangeSpec := { name := "storeOwn", fn := fun _ => fun
  | [d] => { results := [.lit (.bool false)], args := [d] }
  | _ => none }
def StoreOwnWrongFalsely : Prop := storeOwnRow.holds Try.pinned (OpenSpec.ofChange storeOwnWrong)

/-- 'weirkeep.ListsOwn': WHATEVER THE INPUT: true; the input reads as it did. -/
def listsOwnSpec : ChangeSpec := { name := "listsOwn", fn := fun _ => fun
  | [d1, d2, d3, d4, d5, d6] => { results := [.lit (.bool true)], args := [d1, d2, d3, d4, d5, d6] }
  | _ => none }
def listsOwnRow : OpenClaim := { program := "ytolbmdogdjccmaa", sum := "fd4b89736ad86675e5fec9ac2da264f5816a9372b30ff81f22a1cc3405d4baeb", func := "weirmaster/weirkeep.ListsOwn", spec := "listsOwn", unfollowed := true, recurses := true, apart := false }
def ListsOwnSaid : Prop := listsOwnRow.holds Try.pinned (OpenSpec.ofChange listsOwnSpec)

/-- ITS FALSE NEIGHBOUR: 'it returns false'. Refute it at one input. -/
def listsOwnWrong : ChangeSpec := { name := "listsOwn", fn := fun _ => fun
  | [d1, d2, d3, d4, d5, d6] => { results := [.lit (.bool false)], args := [d1, d2, d3, d4, d5, d6] }
  | _ => none }
def ListsOwnWrongFalsely : Prop := listsOwnRow.holds Try.pinned (OpenSpec.ofChange listsOwnWrong)

/-- 'weirkeep.TablesOwn': WHATEVER THE INPUT: true; the input reads as it did. -/
def tablesOwnSpec : ChangeSpec := { name := "tablesOwn", fn := fun _ => fun
  | [d1, d2, d3, d4] => { results := [.lit (.bool true)], args := [d1, d2, d3, d4] }
  | _ => none }
def tablesOwnRow : OpenClaim := { program := "ytolbmdogdjccmaa", sum := "fd4b89736ad86675e5fec9ac2da264f5816a9372b30ff81f22a1cc3405d4baeb", func := "weirmaster/weirkeep.TablesOwn", spec := "tablesOwn", unfollowed := true, recurses := true, apart := false }
def TablesOwnSaid : Prop := tablesOwnRow.holds Try.pinned (OpenSpec.ofChange tablesOwnSpec)

/-- ITS FALSE NEIGHBOUR: 'it returns false'. Refute it at one input. -/
def tablesOwnWrong : ChangeSpec := { name := "tablesOwn", fn := fun _ => fun
  | [d1, d2, d3, d4] => { results := [.lit (.bool false)], args := [d1, d2, d3, d4] }
  | _ => none }
def TablesOwnWrongFalsely : Prop := tablesOwnRow.holds Try.pinned (OpenSpec.ofChange tablesOwnWrong)

/-- 'weirtop.TopPairs': WHATEVER THE INPUT: true; the input reads as it did. -/
def topPairsSpec : ChangeSpec := { name := "topPairs", fn := fun _ => fun
  | [d1, d2, d3] => { results := [.lit (.bool true)], args := [d1, d2, d3] }
  | _ => none }
def topPairsRow : OpenClaim := { program := "ytolbmdogdjccmaa", sum := "fd4b89736ad86675e5fec9ac2da264f5816a9372b30ff81f22a1cc3405d4baeb", func := "weirmaster/weirtop.TopPairs", spec := "topPairs", unfollowed := true, recurses := true, apart := false }
def TopPairsSaid : Prop := topPairsRow.holds Try.pinned (OpenSpec.ofChange topPairsSpec)

/-- ITS FALSE NEIGHBOUR: 'it returns false'. Refute it at one input. -/
def topPairsWrong : ChangeSpec := { name := "topPairs", fn := fun _ => fun
  | [d1, d2, d3] => { results := [.lit (.bool false)], args := [d1, d2, d3] }
  | _ => none }
def TopPairsWrongFalsely : Prop := topPairsRow.holds Try.pinned (OpenSpec.ofChange topPairsWrong)

/- THE SECOND FORM. 'bulk': how many values and letters a reading holds, each counted each time it is reached (what is shared counts as often as it is met; a slice's spare places count too). A statement '..UptoSaid' is the law's where the arguments, and the package variables that the reading takes, are together of bulk at most 1048576: NARROWER than '..Said'. Prove '..Said' where nothing that the law and all that it calls make is longer than what came in: it says more and counts as full. Else prove '..UptoSaid'. A law counts once. -/
mutual
def uptoBulk {H : Type} : DataW H → Nat
  | .lit (.string bytes) => bytes.length + 1
  | .lit _ => 1
  | .nil => 1
  | .ptr d => uptoBulk d + 1
  | .slice elems spare => uptoBulkAll elems + uptoBulkAll spare + 1
  | .agg parts => uptoBulkAll parts + 1
  | .iface _ d => uptoBulk d + 1
  | .map entries => uptoBulkEntries entries + 1
  | .held _ => 1
def uptoBulkAll {H : Type} : List (DataW H) → Nat
  | [] => 0
  | d :: r => uptoBulk d + uptoBulkAll r
def uptoBulkEntries {H : Type} : List (Lit × DataW H) → Nat
  | [] => 0
  | x :: r => uptoBulkEntry x + uptoBulkEntries r
def uptoBulkEntry {H : Type} : Lit × DataW H → Nat
  | (.string bytes, d) => bytes.length + uptoBulk d + 1
  | (_, d) => uptoBulk d + 1
 end
def uptoSmall : (H : Type) → List (DataW H) → Bool := fun _ ds => decide (uptoBulkAll ds ≤ 1048576)
def OpenSpec.upto (s : _root_.Go.ChangeSpec) : _root_.Go.OpenSpec := { _root_.Go.OpenSpec.ofChange s with cond := some uptoSmall }

/-- 'weirkeep.GraphOwn', WHERE WHAT IT READS IS OF BULK AT MOST 1048576: true; the input reads as it did. -/
def graphOwnUptoRow : OpenClaim := { program := "ytolbmdogdjccmaa", sum := "fd4b89736ad86675e5fec9ac2da264f5816a9372b30ff81f22a1cc3405d4baeb", func := "weirmaster/weirkeep.GraphOwn", spec := "graphOwn", unfollowed := true, recurses := true, apart := false, narrowed := true }
def GraphOwnUptoSaid : Prop := graphOwnUptoRow.holds Try.pinned (OpenSpec.upto graphOwnSpec)

/-- 'weirkeep.PushOwn', WHERE WHAT IT READS IS OF BULK AT MOST 1048576: true; the input reads as it did. -/
def pushOwnUptoRow : OpenClaim := { program := "ytolbmdogdjccmaa", sum := "fd4b89736ad86675e5fec9ac2da264f5816a9372b30ff81f22a1cc3405d4baeb", func := "weirmaster/weirkeep.PushOwn", spec := "pushOwn", apart := false, narrowed := true }
def PushOwnUptoSaid : Prop := pushOwnUptoRow.holds Try.pinned (OpenSpec.upto pushOwnSpec)

/-- 'weirkeep.FlowOwn', WHERE WHAT IT READS IS OF BULK AT MOST 1048576: true; the input reads as it did. -/
def flowOwnUptoRow : OpenClaim := { program := "ytolbmdogdjccmaa", sum := "fd4b89736ad86675e5fec9ac2da264f5816a9372b30ff81f22a1cc3405d4baeb", func := "weirmaster/weirkeep.FlowOwn", spec := "flowOwn", unfollowed := true, recurses := true, apart := false, narrowed := true }
def FlowOwnUptoSaid : Prop := flowOwnUptoRow.holds Try.pinned (OpenSpec.upto flowOwnSpec)

/-- 'weirkeep.RepairOwn', WHERE WHAT IT READS IS OF BULK AT MOST 1048576: true; the input reads as it did. -/
def repairOwnUptoRow : OpenClaim := { program := "ytolbmdogdjccmaa", sum := "fd4b89736ad86675e5fec9ac2da264f5816a9372b30ff81f22a1cc3405d4baeb", func := "weirmaster/weirkeep.RepairOwn", spec := "repairOwn", unfollowed := true, recurses := true, apart := false, narrowed := true }
def RepairOwnUptoSaid : Prop := repairOwnUptoRow.holds Try.pinned (OpenSpec.upto repairOwnSpec)

/-- 'weirkeep.StoreOwn', WHERE WHAT IT READS IS OF BULK AT MOST 1048576: true; the input reads as it did. -/
def storeOwnUptoRow : OpenClaim := { program := "ytolbmdogdjccmaa", sum := "fd4b89736ad86675e5fec9ac2da264f5816a9372b30ff81f22a1cc3405d4baeb", func := "weirmaster/weirkeep.StoreOwn", spec := "storeOwn", unfollowed := true, recurses := true, apart := false, narrowed := true }
def StoreOwnUptoSaid : Prop := storeOwnUptoRow.holds Try.pinned (OpenSpec.upto storeOwnSpec)

/-- 'weirkeep.ListsOwn', WHERE WHAT IT READS IS OF BULK AT MOST 1048576: true; the input reads as it did. -/
def listsOwnUptoRow : OpenClaim := { program := "ytolbmdogdjccmaa", sum := "fd4b89736ad86675e5fec9ac2da264f5816a9372b30ff81f22a1cc3405d4baeb", func := "weirmaster/weirkeep.ListsOwn", spec := "listsOwn", unfollowed := true, recurses := true, apart := false, narrowed := true }
def ListsOwnUptoSaid : Prop := listsOwnUptoRow.holds Try.pinned (OpenSpec.upto listsOwnSpec)

/-- 'weirkeep.TablesOwn', WHERE WHAT IT READS IS OF BULK AT MOST 1048576: true; the input reads as it did. -/
def tablesOwnUptoRow : OpenClaim := { program := "ytolbmdogdjccmaa", sum := "fd4b89736ad86675e5fec9ac2da264f5816a9372b30ff81f22a1cc3405d4baeb", func := "weirmaster/weirkeep.TablesOwn", spec := "tablesOwn", unfollowed := true, recurses := true, apart := false, narrowed := true }
def TablesOwnUptoSaid : Prop := tablesOwnUptoRow.holds Try.pinned (OpenSpec.upto tablesOwnSpec)

/-- 'weirtop.TopPairs', WHERE WHAT IT READS IS OF BULK AT MOST 1048576: true; the input reads as it did. -/
def topPairsUptoRow : OpenClaim := { program := "ytolbmdogdjccmaa", sum := "fd4b89736ad86675e5fec9ac2da264f5816a9372b30ff81f22a1cc3405d4baeb", func := "weirmaster/weirtop.TopPairs", spec := "topPairs", unfollowed := true, recurses := true, apart := false, narrowed := true }
def TopPairsUptoSaid : Prop := topPairsUptoRow.holds Try.pinned (OpenSpec.upto topPairsSpec)

end Rows
end Go.Proofs.Ytolbmdogdjccmaa
