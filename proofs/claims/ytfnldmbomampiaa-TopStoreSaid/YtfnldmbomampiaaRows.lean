/-
  No cell of these rows narrows 'for every input' (looked for: loops, veiled, ifaces, maps, wideKeys, modest, calm, conditions, laid).
  DERIVED. THE GIVEN ROWS OF THIS SEAT. 6 by the template 'for every input the law returns true; each argument reads behind the call as it read before'; 0 by the template 'total and deterministic' (their statements: YtfnldmbomampiaaTotals.lean).
  GIVEN WITH THE SEED: the statements are not yours to turn. If you find one false, say at which input.
  Laid BY PROGRAM, IN A SANDBOX (cutbox-rows.mjs): the forced cells as the released guide's own fill.sh prints them over the translation 3f6442a8bc1f4d54… (all of the seat's roots in one cut). By AI agents, Wed Nov 11 2026. No macro, syntax, notation, axiom, sorry.
-/
import Derived.Test.YtfnldmbomampiaaChecked
import GoSem.Claim
import GoSem.ClaimJoined
import GoSem.ClaimMapViews
import Derived.JoinedTies
import Derived.KernelRfl
namespace Go.Proofs.Ytfnldmbomampiaa
/- THE CELL 'sum', in the pinned program and in every row, IS THE sha256 OF THE DUMP (.gsa) THAT YtfnldmbomampiaaProg.lean LOADS. Nothing in Lean hashes anything: it is a label: what it is worth is what the hold of that sum in a sandbox is worth. -/
noncomputable def Try.pinned : Pinned := { name := "ytfnldmbomampiaa", sum := "3f6442a8bc1f4d54d67d985f4d7346571323d8f74e9f7f1f149273712a6c53c0", checked := Try.checked }
namespace Rows
def none {H : Type} : Left H := { results := [], args := [] }

/-- 'weirkeep.StoreUndo': WHATEVER THE INPUT: true; the input reads as it did. -/
def storeUndoSpec : ChangeSpec := { name := "storeUndo", fn := fun _ => fun
  | [d1, d2] => { results := [.lit (.bool true)], args := [d1, d2] }
  | _ => none }
def storeUndoRow : OpenClaim := { program := "ytfnldmbomampiaa", sum := "3f6442a8bc1f4d54d67d985f4d7346571323d8f74e9f7f1f149273712a6c53c0", func := "weirmaster/weirkeep.StoreUndo", spec := "storeUndo", unfollowed := true, recurses := true, apart := false }
def StoreUndoSaid : Prop := storeUndoRow.holds Try.pinned (OpenSpec.ofChange storeUndoSpec)

/-- ITS FALSE NEIGHBOUR: 'it returns false'. Refute it at one input. -/
def storeUndoWrong : ChangeSpec := { name := "storeUndo", fn := fun _ => fun
  | [d1, d2] => { results := [.lit (.bool false)], args := [d1, d2] }
  | _ => none }
def StoreUndoWrongFalsely : Prop := storeUndoRow.holds Try.pinned (OpenSpec.ofChange storeUndoWrong)

/-- 'weirkeep.StoreSaves': WHATEVER THE INPUT: true; the input reads as it did. -/
def storeSavesSpec : ChangeSpec := { name := "storeSaves", fn := fun _ => fun
  | [d1, d2, d3] => { results := [.lit (.bool true)], args := [d1, d2, d3] }
  | _ => none }
def storeSavesRow : OpenClaim := { program := "ytfnldmbomampiaa", sum := "3f6442a8bc1f4d54d67d985f4d7346571323d8f74e9f7f1f149273712a6c53c0", func := "weirmaster/weirkeep.StoreSaves", spec := "storeSaves", unfollowed := true, recurses := true, apart := false }
def StoreSavesSaid : Prop := storeSavesRow.holds Try.pinned (OpenSpec.ofChange storeSavesSpec)

/-- ITS FALSE NEIGHBOUR: 'it returns false'. Refute it at one input. -/
def storeSavesWrong : ChangeSpec := { name := "storeSaves", fn := fun _ => fun
  | [d1, d2, d3] => { results := [.lit (.bool false)], args := [d1, d2, d3] }
  | _ => none }
def StoreSavesWrongFalsely : Prop := storeSavesRow.holds Try.pinned (OpenSpec.ofChange storeSavesWrong)

/-- 'weirkeep.StoreFresh': WHATEVER THE INPUT: true; the input reads as it did. -/
def storeFreshSpec : ChangeSpec := { name := "storeFresh", fn := fun _ => fun
  | [d] => { results := [.lit (.bool true)], args := [d] }
  | _ => none }
def storeFreshRow : OpenClaim := { program := "ytfnldmbomampiaa", sum := "3f6442a8bc1f4d54d67d985f4d7346571323d8f74e9f7f1f149273712a6c53c0", func := "weirmaster/weirkeep.StoreFresh", spec := "storeFresh", unfollowed := true, recurses := true, apart := false }
def StoreFreshSaid : Prop := storeFreshRow.holds Try.pinned (OpenSpec.ofChange storeFreshSpec)

/-- ITS FALSE NEIGHBOUR: 'it returns false'. Refute it at one input. -/
def storeFreshWrong : ChangeSpec := { name := "storeFresh", fn := fun _ => fun
  | [d] => { results := [.lit (.bool false)], args := [d] }
  | _ => none }
def StoreFreshWrongFalsely : Prop := storeFreshRow.holds Try.pinned (OpenSpec.ofChange storeFreshWrong)

/-- 'weirkeep.StoreRefuses': WHATEVER THE INPUT: true; the input reads as it did. -/
def storeRefusesSpec : ChangeSpec := { name := "storeRefuses", fn := fun _ => fun
  | [d1, d2, d3] => { results := [.lit (.bool true)], args := [d1, d2, d3] }
  | _ => none }
def storeRefusesRow : OpenClaim := { program := "ytfnldmbomampiaa", sum := "3f6442a8bc1f4d54d67d985f4d7346571323d8f74e9f7f1f149273712a6c53c0", func := "weirmaster/weirkeep.StoreRefuses", spec := "storeRefuses", unfollowed := true, recurses := true, apart := false }
def StoreRefusesSaid : Prop := storeRefusesRow.holds Try.pinned (OpenSpec.ofChange storeRefusesSpec)

/-- ITS FALSE NEIGHBOUR: 'it returns false'. Refute it at one input. -/
def storeRefusesWrong : ChangeSpec := { name := "storeRefuses", fn := fun _ => fun
  | [d1, d2, d3] => { results := [.lit (.bool false)], args := [d1, d2, d3] }
  | _ => none }
def StoreRefusesWrongFalsely : Prop := storeRefusesRow.holds Try.pinned (OpenSpec.ofChange storeRefusesWrong)

/-- 'weirkeep.StoreOwn': WHATEVER THE INPUT: true; the input reads as it did. -/
def storeOwnSpec : ChangeSpec := { name := "storeOwn", fn := fun _ => fun
  | [d] => { results := [.lit (.bool true)], args := [d] }
  | _ => none }
def storeOwnRow : OpenClaim := { program := "ytfnldmbomampiaa", sum := "3f6442a8bc1f4d54d67d985f4d7346571323d8f74e9f7f1f149273712a6c53c0", func := "weirmaster/weirkeep.StoreOwn", spec := "storeOwn", unfollowed := true, recurses := true, apart := false }
def StoreOwnSaid : Prop := storeOwnRow.holds Try.pinned (OpenSpec.ofChange storeOwnSpec)

/-- ITS FALSE NEIGHBOUR: 'it returns false'. Refute it at one input. -/
def storeOwnWrong : ChangeSpec := { name := "storeOwn", fn := fun _ => fun
  | [d] => { results := [.lit (.bool false)], args := [d] }
  | _ => none }
def StoreOwnWrongFalsely : Prop := storeOwnRow.holds Try.pinned (OpenSpec.ofChange storeOwnWrong)

/-- 'weirtop.TopStore': WHATEVER THE INPUT: true; the input reads as it did. -/
def topStoreSpec : ChangeSpec := { name := "topStore", fn := fun _ => fun
  | [d1, d2] => { results := [.lit (.bool true)], args := [d1, d2] }
  | _ => none }
def topStoreRow : OpenClaim := { program := "ytfnldmbomampiaa", sum := "3f6442a8bc1f4d54d67d985f4d7346571323d8f74e9f7f1f149273712a6c53c0", func := "weirmaster/weirtop.TopStore", spec := "topStore", unfollowed := true, recurses := true, apart := false }
def TopStoreSaid : Prop := topStoreRow.holds Try.pinned (OpenSpec.ofChange topStoreSpec)

/-- ITS FALSE NEIGHBOUR: 'it returns false'. Refute it at one input. -/
def topStoreWrong : ChangeSpec := { name := "topStore", fn := fun _ => fun
  | [d1, d2] => { results := [.lit (.bool false)], args := [d1, d2] }
  | _ => none }
def TopStoreWrongFalsely : Prop := topStoreRow.holds Try.pinned (OpenSpec.ofChange topStoreWrong)

/- THE SECOND FORM. 'bulk': how many values and letters a reading holds, each counted each time it is reached (what is shared counts as often as it is met; a slice's spare places count too). A statement '..UptoSaid' is the law's where the arguments, and the package variables that the reading takes, are together of bulk at most 1048576: NARROWER than '..Said'. Prove '..Said' where nothing that the law and all that it calls make is longer than what came in: it says more and counts as full. Else prove '..UptoSaid'. A law counts once. -/
mutual
def uptoBulk {H : Type} : DataW H → Nat
  | .lit (.string bytes) => bytes.length + 1
  | .lit _ => 1
  | .nil => 1
  | .ptr d => uptoBulk d + 1
  | .slice elems spare => uptoBulkAll elems + uptoBulkAll spare + 1
  | .agg parts => uptoBulkAll parts + 1
  | .iface _ d => uptoBulk d + 1
  | .map entries => uptoBulkEntries entries + 1
  | .held _ => 1
def uptoBulkAll {H : Type} : List (DataW H) → Nat
  | [] => 0
  | d :: r => uptoBulk d + uptoBulkAll r
def uptoBulkEntries {H : Type} : List (Lit × DataW H) → Nat
  | [] => 0
  | x :: r => uptoBulkEntry x + uptoBulkEntries r
def uptoBulkEntry {H : Type} : Lit × DataW H → Nat
  | (.string bytes, d) => bytes.length + uptoBulk d + 1
  | (_, d) => uptoBulk d + 1
 end
def uptoSmall : (H : Type) → List (DataW H) → Bool := fun _ ds => decide (uptoBulkAll ds ≤ 1048576)
def OpenSpec.upto (s : _root_.Go.ChangeSpec) : _root_.Go.OpenSpec := { _root_.Go.OpenSpec.ofChange s with cond := some uptoSmall }

/-- 'weirkeep.StoreUndo', WHERE WHAT IT READS IS OF BULK AT MOST 1048576: true; the input reads as it did. -/
def storeUndoUptoRow : OpenClaim := { program := "ytfnldmbomampiaa", sum := "3f6442a8bc1f4d54d67d985f4d7346571323d8f74e9f7f1f149273712a6c53c0", func := "weirmaster/weirkeep.StoreUndo", spec := "storeUndo", unfollowed := true, recurses := true, apart := false, narrowed := true }
def StoreUndoUptoSaid : Prop := storeUndoUptoRow.holds Try.pinned (OpenSpec.upto storeUndoSpec)

/-- 'weirkeep.StoreSaves', WHERE WHAT IT READS IS OF BULK AT MOST 1048576: true; the input reads as it did. -/
def storeSavesUptoRow : OpenClaim := { program := "ytfnldmbomampiaa", sum := "3f6442a8bc1f4d54d67d985f4d7346571323d8f74e9f7f1f149273712a6c53c0", func := "weirmaster/weirkeep.StoreSaves", spec := "storeSaves", unfollowed := true, recurses := true, apart := false, narrowed := true }
def StoreSavesUptoSaid : Prop := storeSavesUptoRow.holds Try.pinned (OpenSpec.upto storeSavesSpec)

/-- 'weirkeep.StoreFresh', WHERE WHAT IT READS IS OF BULK AT MOST 1048576: true; the input reads as it did. -/
def storeFreshUptoRow : OpenClaim := { program := "ytfnldmbomampiaa", sum := "3f6442a8bc1f4d54d67d985f4d7346571323d8f74e9f7f1f149273712a6c53c0", func := "weirmaster/weirkeep.StoreFresh", spec := "storeFresh", unfollowed := true, recurses := true, apart := false, narrowed := true }
def StoreFreshUptoSaid : Prop := storeFreshUptoRow.holds Try.pinned (OpenSpec.upto storeFreshSpec)

/-- 'weirkeep.StoreRefuses', WHERE WHAT IT READS IS OF BULK AT MOST 1048576: true; the input reads as it did. -/
def storeRefusesUptoRow : OpenClaim := { program := "ytfnldmbomampiaa", sum := "3f6442a8bc1f4d54d67d985f4d7346571323d8f74e9f7f1f149273712a6c53c0", func := "weirmaster/weirkeep.StoreRefuses", spec := "storeRefuses", unfollowed := true, recurses := true, apart := false, narrowed := true }
def StoreRefusesUptoSaid : Prop := storeRefusesUptoRow.holds Try.pinned (OpenSpec.upto storeRefusesSpec)

/-- 'weirkeep.StoreOwn', WHERE WHAT IT READS IS OF BULK AT MOST 1048576: true; the input reads as it did. -/
def storeOwnUptoRow : OpenClaim := { program := "ytfnldmbomampiaa", sum := "3f6442a8bc1f4d54d67d985f4d7346571323d8f74e9f7f1f149273712a6c53c0", func := "weirmaster/weirkeep.StoreOwn", spec := "storeOwn", unfollowed := true, recurses := true, apart := false, narrowed := true }
def StoreOwnUptoSaid : Prop := storeOwnUptoRow.holds Try.pinned (OpenSpec.upto storeOwnSpec)

/-- 'weirtop.TopStore', WHERE WHAT IT READS IS OF BULK AT MOST 1048576: true; the input reads as it did. -/
def topStoreUptoRow : OpenClaim := { program := "ytfnldmbomampiaa", sum := "3f6442a8bc1f4d54d67d985f4d7346571323d8f74e9f7f1f149273712a6c53c0", func := "weirmaster/weirtop.TopStore", spec := "topStore", unfollowed := true, recurses := true, apart := false, narrowed := true }
def TopStoreUptoSaid : Prop := topStoreUptoRow.holds Try.pinned (OpenSpec.upto topStoreSpec)

end Rows
end Go.Proofs.Ytfnldmbomampiaa
