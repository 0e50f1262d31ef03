/-
  No cell of these rows narrows 'for every input' (looked for: loops, veiled, ifaces, maps, wideKeys, modest, calm, conditions, laid).
  DERIVED. THE GIVEN ROWS OF THIS SEAT. 12 by the template 'for every input the law returns true; each argument reads behind the call as it read before'; 0 by the template 'total and deterministic' (their statements: YtppohimlocaaoaaTotals.lean).
  GIVEN WITH THE SEED: the statements are not yours to turn. If you find one false, say at which input.
  Laid BY PROGRAM, IN A SANDBOX (cutbox-rows.mjs): the forced cells as the released guide's own fill.sh prints them over the translation acd956ea31fae4f9… (all of the seat's roots in one cut). By AI agents, Wed Nov 11 2026. No macro, syntax, notation, axiom, sorry.
-/
import Derived.Test.YtppohimlocaaoaaChecked
import GoSem.Claim
import GoSem.ClaimJoined
import GoSem.ClaimMapViews
import Derived.JoinedTies
import Derived.KernelRfl
namespace Go.Proofs.Ytppohimlocaaoaa
/- THE CELL 'sum', in the pinned program and in every row, IS THE sha256 OF THE DUMP (.gsa) THAT YtppohimlocaaoaaProg.lean LOADS. Nothing in Lean hashes anything: it is a label: what it is worth is what the hold of that sum in a sandbox is worth. -/
noncomputable def Try.pinned : Pinned := { name := "ytppohimlocaaoaa", sum := "acd956ea31fae4f9013fe192f5a901088f4b7e4dc4b8660d613581b56eeea653", checked := Try.checked }
namespace Rows
def none {H : Type} : Left H := { results := [], args := [] }

/-- 'weirkeep.RepairBack': WHATEVER THE INPUT: true; the input reads as it did. -/
def repairBackSpec : ChangeSpec := { name := "repairBack", fn := fun _ => fun
  | [d1, d2, d3] => { results := [.lit (.bool true)], args := [d1, d2, d3] }
  | _ => none }
def repairBackRow : OpenClaim := { program := "ytppohimlocaaoaa", sum := "acd956ea31fae4f9013fe192f5a901088f4b7e4dc4b8660d613581b56eeea653", func := "weirmaster/weirkeep.RepairBack", spec := "repairBack", unfollowed := true, recurses := true, apart := false }
def RepairBackSaid : Prop := repairBackRow.holds Try.pinned (OpenSpec.ofChange repairBackSpec)

/-- ITS FALSE NEIGHBOUR: 'it returns false'. Refute it at one input. -/
def repairBackWrong : ChangeSpec := { name := "repairBack", fn := fun _ => fun
  | [d1, d2, d3] => { results := [.lit (.bool false)], args := [d1, d2, d3] }
  | _ => none }
def RepairBackWrongFalsely : Prop := repairBackRow.holds Try.pinned (OpenSpec.ofChange repairBackWrong)

/-- 'weirkeep.RepairDrops': WHATEVER THE INPUT: true; the input reads as it did. -/
def repairDropsSpec : ChangeSpec := { name := "repairDrops", fn := fun _ => fun
  | [d1, d2] => { results := [.lit (.bool true)], args := [d1, d2] }
  | _ => none }
def repairDropsRow : OpenClaim := { program := "ytppohimlocaaoaa", sum := "acd956ea31fae4f9013fe192f5a901088f4b7e4dc4b8660d613581b56eeea653", func := "weirmaster/weirkeep.RepairDrops", spec := "repairDrops", unfollowed := true, recurses := true, apart := false }
def RepairDropsSaid : Prop := repairDropsRow.holds Try.pinned (OpenSpec.ofChange repairDropsSpec)

/-- ITS FALSE NEIGHBOUR: 'it returns false'. Refute it at one input. -/
def repairDropsWrong : ChangeSpec := { name := "repairDrops", fn := fun _ => fun
  | [d1, d2] => { results := [.lit (.bool false)], args := [d1, d2] }
  | _ => none }
def RepairDropsWrongFalsely : Prop := repairDropsRow.holds Try.pinned (OpenSpec.ofChange repairDropsWrong)

/-- 'weirkeep.RepairSame': WHATEVER THE INPUT: true; the input reads as it did. -/
def repairSameSpec : ChangeSpec := { name := "repairSame", fn := fun _ => fun
  | [d1, d2] => { results := [.lit (.bool true)], args := [d1, d2] }
  | _ => none }
def repairSameRow : OpenClaim := { program := "ytppohimlocaaoaa", sum := "acd956ea31fae4f9013fe192f5a901088f4b7e4dc4b8660d613581b56eeea653", func := "weirmaster/weirkeep.RepairSame", spec := "repairSame", unfollowed := true, recurses := true, apart := false }
def RepairSameSaid : Prop := repairSameRow.holds Try.pinned (OpenSpec.ofChange repairSameSpec)

/-- ITS FALSE NEIGHBOUR: 'it returns false'. Refute it at one input. -/
def repairSameWrong : ChangeSpec := { name := "repairSame", fn := fun _ => fun
  | [d1, d2] => { results := [.lit (.bool false)], args := [d1, d2] }
  | _ => none }
def RepairSameWrongFalsely : Prop := repairSameRow.holds Try.pinned (OpenSpec.ofChange repairSameWrong)

/-- 'weirtop.TopRepair': WHATEVER THE INPUT: true; the input reads as it did. -/
def topRepairSpec : ChangeSpec := { name := "topRepair", fn := fun _ => fun
  | [d] => { results := [.lit (.bool true)], args := [d] }
  | _ => none }
def topRepairRow : OpenClaim := { program := "ytppohimlocaaoaa", sum := "acd956ea31fae4f9013fe192f5a901088f4b7e4dc4b8660d613581b56eeea653", func := "weirmaster/weirtop.TopRepair", spec := "topRepair", unfollowed := true, recurses := true, apart := false }
def TopRepairSaid : Prop := topRepairRow.holds Try.pinned (OpenSpec.ofChange topRepairSpec)

/-- ITS FALSE NEIGHBOUR: 'it returns false'. Refute it at one input. -/
def topRepairWrong : ChangeSpec := { name := "topRepair", fn := fun _ => fun
  | [d] => { results := [.lit (.bool false)], args := [d] }
  | _ => none }
def TopRepairWrongFalsely : Prop := topRepairRow.holds Try.pinned (OpenSpec.ofChange topRepairWrong)

/-- 'weirkeep.StoreUndo': WHATEVER THE INPUT: true; the input reads as it did. -/
def storeUndoSpec : ChangeSpec := { name := "storeUndo", fn := fun _ => fun
  | [d1, d2] => { results := [.lit (.bool true)], args := [d1, d2] }
  | _ => none }
def storeUndoRow : OpenClaim := { program := "ytppohimlocaaoaa", sum := "acd956ea31fae4f9013fe192f5a901088f4b7e4dc4b8660d613581b56eeea653", func := "weirmaster/weirkeep.StoreUndo", spec := "storeUndo", unfollowed := true, recurses := true, apart := false }
def StoreUndoSaid : Prop := storeUndoRow.holds Try.pinned (OpenSpec.ofChange storeUndoSpec)

/-- ITS FALSE NEIGHBOUR: 'it returns false'. Refute it at one input. -/
def storeUndoWrong : ChangeSpec := { name := "storeUndo", fn := fun _ => fun
  | [d1, d2] => { results := [.lit (.bool false)], args := [d1, d2] }
  | _ => none }
def StoreUndoWrongFalsely : Prop := storeUndoRow.holds Try.pinned (OpenSpec.ofChange storeUndoWrong)

/-- 'weirkeep.StoreSaves': WHATEVER THE INPUT: true; the input reads as it did. -/
def storeSavesSpec : ChangeSpec := { name := "storeSaves", fn := fun _ => fun
  | [d1, d2, d3] => { results := [.lit (.bool true)], args := [d1, d2, d3] }
  | _ => none }
def storeSavesRow : OpenClaim := { program := "ytppohimlocaaoaa", sum := "acd956ea31fae4f9013fe192f5a901088f4b7e4dc4b8660d613581b56eeea653", func := "weirmaster/weirkeep.StoreSaves", spec := "storeSaves", unfollowed := true, recurses := true, apart := false }
def StoreSavesSaid : Prop := storeSavesRow.holds Try.pinned (OpenSpec.ofChange storeSavesSpec)

/-- ITS FALSE NEIGHBOUR: 'it returns false'. Refute it at one input. -/
def storeSavesWrong : ChangeSpec := { name := "storeSaves", fn := fun _ => fun
  | [d1, d2, d3] => { results := [.lit (.bool false)], args := [d1, d2, d3] }
  | _ => none }
def StoreSavesWrongFalsely : Prop := storeSavesRow.holds Try.pinned (OpenSpec.ofChange storeSavesWrong)

/-- 'weirkeep.StoreFresh': WHATEVER THE INPUT: true; the input reads as it did. -/
def storeFreshSpec : ChangeSpec := { name := "storeFresh", fn := fun _ => fun
  | [d] => { results := [.lit (.bool true)], args := [d] }
  | _ => none }
def storeFreshRow : OpenClaim := { program := "ytppohimlocaaoaa", sum := "acd956ea31fae4f9013fe192f5a901088f4b7e4dc4b8660d613581b56eeea653", func := "weirmaster/weirkeep.StoreFresh", spec := "storeFresh", unfollowed := true, recurses := true, apart := false }
def StoreFreshSaid : Prop := storeFreshRow.holds Try.pinned (OpenSpec.ofChange storeFreshSpec)

/-- ITS FALSE NEIGHBOUR: 'it returns false'. Refute it at one input. -/
def storeFreshWrong : ChangeSpec := { name := "storeFresh", fn := fun _ => fun
  | [d] => { results := [.lit (.bool false)], args := [d] }
  | _ => none }
def StoreFreshWrongFalsely : Prop := storeFreshRow.holds Try.pinned (OpenSpec.ofChange storeFreshWrong)

/-- 'weirkeep.StoreRefuses': WHATEVER THE INPUT: true; the input reads as it did. -/
def storeRefusesSpec : ChangeSpec := { name := "storeRefuses", fn := fun _ => fun
  | [d1, d2, d3] => { results := [.lit (.bool true)], args := [d1, d2, d3] }
  | _ => none }
def storeRefusesRow : OpenClaim := { program := "ytppohimlocaaoaa", sum := "acd956ea31fae4f9013fe192f5a901088f4b7e4dc4b8660d613581b56eeea653", func := "weirmaster/weirkeep.StoreRefuses", spec := "storeRefuses", unfollowed := true, recurses := true, apart := false }
def StoreRefusesSaid : Prop := storeRefusesRow.holds Try.pinned (OpenSpec.ofChange storeRefusesSpec)

/-- ITS FALSE NEIGHBOUR: 'it returns false'. Refute it at one input. -/
def storeRefusesWrong : ChangeSpec := { name := "storeRefuses", fn := fun _ => fun
  | [d1, d2, d3] => { results := [.lit (.bool false)], args := [d1, d2, d3] }
  | _ => none }
def StoreRefusesWrongFalsely : Prop := storeRefusesRow.holds Try.pinned (OpenSpec.ofChange storeRefusesWrong)

/-- 'weirtop.TopStore': WHATEVER THE INPUT: true; the input reads as it did. -/
def topStoreSpec : ChangeSpec := { name := "topStore", fn := fun _ => fun
  | [d1, d2] => { results := [.lit (.bool true)], args := [d1, d2] }
  | _ => none }
def topStoreRow : OpenClaim := { program := "ytppohimlocaaoaa", sum := "acd956ea31fae4f9013fe192f5a901088f4b7e4dc4b8660d613581b56eeea653", func := "weirmaster/weirtop.TopStore", spec := "topStore", unfollowed := true, recurses := true, apart := false }
def TopStoreSaid : Prop := topStoreRow.holds Try.pinned (OpenSpec.ofChange topStoreSpec)

/-- ITS FALSE NEIGHBOUR: 'it returns false'. Refute it at one input. -/
def topStoreWrong : ChangeSpec := { name := "topStore", fn := fun _ => fun
  | [d1, d2] => { results := [.lit (.bool false)], args := [d1, d2] }
  | _ => none }
def TopStoreWrongFalsely : Prop := topStoreRow.holds Try.pinned (OpenSpec.ofChange topStoreWrong)

/-- 'weirkeep.MatchMore': WHATEVER THE INPUT: true; the input reads as it did. -/
def matchMoreSpec : ChangeSpec := { name := "matchMore", fn := fun _ => fun
  | [d1, d2, d3, d4] => { results := [.lit (.bool true)], args := [d1, d2, d3, d4] }
  | _ => none }
def matchMoreRow : OpenClaim := { program := "ytppohimlocaaoaa", sum := "acd956ea31fae4f9013fe192f5a901088f4b7e4dc4b8660d613581b56eeea653", func := "weirmaster/weirkeep.MatchMore", spec := "matchMore", unfollowed := true, recurses := true, apart := false }
def MatchMoreSaid : Prop := matchMoreRow.holds Try.pinned (OpenSpec.ofChange matchMoreSpec)

/-- ITS FALSE NEIGHBOUR: 'it returns false'. Refute it at one input. -/
def matchMoreWrong : ChangeSpec := { name := "matchMore", fn := fun _ => fun
  | [d1, d2, d3, d4] => { results := [.lit (.bool false)], args := [d1, d2, d3, d4] }
  | _ => none }
def MatchMoreWrongFalsely : Prop := matchMoreRow.holds Try.pinned (OpenSpec.ofChange matchMoreWrong)

/-- 'weirkeep.MatchHolds': WHATEVER THE INPUT: true; the input reads as it did. -/
def matchHoldsSpec : ChangeSpec := { name := "matchHolds", fn := fun _ => fun
  | [d1, d2, d3, d4, d5] => { results := [.lit (.bool true)], args := [d1, d2, d3, d4, d5] }
  | _ => none }
def matchHoldsRow : OpenClaim := { program := "ytppohimlocaaoaa", sum := "acd956ea31fae4f9013fe192f5a901088f4b7e4dc4b8660d613581b56eeea653", func := "weirmaster/weirkeep.MatchHolds", spec := "matchHolds", unfollowed := true, recurses := true, apart := false }
def MatchHoldsSaid : Prop := matchHoldsRow.holds Try.pinned (OpenSpec.ofChange matchHoldsSpec)

/-- ITS FALSE NEIGHBOUR: 'it returns false'. Refute it at one input. -/
def matchHoldsWrong : ChangeSpec := { name := "matchHolds", fn := fun _ => fun
  | [d1, d2, d3, d4, d5] => { results := [.lit (.bool false)], args := [d1, d2, d3, d4, d5] }
  | _ => none }
def MatchHoldsWrongFalsely : Prop := matchHoldsRow.holds Try.pinned (OpenSpec.ofChange matchHoldsWrong)

/-- 'weirkeep.MatchHall': WHATEVER THE INPUT: true; the input reads as it did. -/
def matchHallSpec : ChangeSpec := { name := "matchHall", fn := fun _ => fun
  | [d1, d2, d3, d4] => { results := [.lit (.bool true)], args := [d1, d2, d3, d4] }
  | _ => none }
def matchHallRow : OpenClaim := { program := "ytppohimlocaaoaa", sum := "acd956ea31fae4f9013fe192f5a901088f4b7e4dc4b8660d613581b56eeea653", func := "weirmaster/weirkeep.MatchHall", spec := "matchHall", unfollowed := true, recurses := true, apart := false }
def MatchHallSaid : Prop := matchHallRow.holds Try.pinned (OpenSpec.ofChange matchHallSpec)

/-- ITS FALSE NEIGHBOUR: 'it returns false'. Refute it at one input. -/
def matchHallWrong : ChangeSpec := { name := "matchHall", fn := fun _ => fun
  | [d1, d2, d3, d4] => { results := [.lit (.bool false)], args := [d1, d2, d3, d4] }
  | _ => none }
def MatchHallWrongFalsely : Prop := matchHallRow.holds Try.pinned (OpenSpec.ofChange matchHallWrong)

/- THE SECOND FORM. 'bulk': how many values and letters a reading holds, each counted each time it is reached (what is shared counts as often as it is met; a slice's spare places count too). A statement '..UptoSaid' is the law's where the arguments, and the package variables that the reading takes, are together of bulk at most 1048576: NARROWER than '..Said'. Prove '..Said' where nothing that the law and all that it calls make is longer than what came in: it says more and counts as full. Else prove '..UptoSaid'. A law counts once. -/
mutual
def uptoBulk {H : Type} : DataW H → Nat
  | .lit (.string bytes) => bytes.length + 1
  | .lit _ => 1
  | .nil => 1
  | .ptr d => uptoBulk d + 1
  | .slice elems spare => uptoBulkAll elems + uptoBulkAll spare + 1
  | .agg parts => uptoBulkAll parts + 1
  | .iface _ d => uptoBulk d + 1
  | .map entries => uptoBulkEntries entries + 1
  | .held _ => 1
def uptoBulkAll {H : Type} : List (DataW H) → Nat
  | [] => 0
  | d :: r => uptoBulk d + uptoBulkAll r
def uptoBulkEntries {H : Type} : List (Lit × DataW H) → Nat
  | [] => 0
  | x :: r => uptoBulkEntry x + uptoBulkEntries r
def uptoBulkEntry {H : Type} : Lit × DataW H → Nat
  | (.string bytes, d) => bytes.length + uptoBulk d + 1
  | (_, d) => uptoBulk d + 1
 end
def uptoSmall : (H : Type) → List (DataW H) → Bool := fun _ ds => decide (uptoBulkAll ds ≤ 1048576)
def OpenSpec.upto (s : _root_.Go.ChangeSpec) : _root_.Go.OpenSpec := { _root_.Go.OpenSpec.ofChange s with cond := some uptoSmall }

/-- 'weirkeep.RepairBack', WHERE WHAT IT READS IS OF BULK AT MOST 1048576: true; the input reads as it did. -/
def repairBackUptoRow : OpenClaim := { program := "ytppohimlocaaoaa", sum := "acd956ea31fae4f9013fe192f5a901088f4b7e4dc4b8660d613581b56eeea653", func := "weirmaster/weirkeep.RepairBack", spec := "repairBack", unfollowed := true, recurses := true, apart := false, narrowed := true }
def RepairBackUptoSaid : Prop := repairBackUptoRow.holds Try.pinned (OpenSpec.upto repairBackSpec)

/-- 'weirkeep.RepairDrops', WHERE WHAT IT READS IS OF BULK AT MOST 1048576: true; the input reads as it did. -/
def repairDropsUptoRow : OpenClaim := { program := "ytppohimlocaaoaa", sum := "acd956ea31fae4f9013fe192f5a901088f4b7e4dc4b8660d613581b56eeea653", func := "weirmaster/weirkeep.RepairDrops", spec := "repairDrops", unfollowed := true, recurses := true, apart := false, narrowed := true }
def RepairDropsUptoSaid : Prop := repairDropsUptoRow.holds Try.pinned (OpenSpec.upto repairDropsSpec)

/-- 'weirkeep.RepairSame', WHERE WHAT IT READS IS OF BULK AT MOST 1048576: true; the input reads as it did. -/
def repairSameUptoRow : OpenClaim := { program := "ytppohimlocaaoaa", sum := "acd956ea31fae4f9013fe192f5a901088f4b7e4dc4b8660d613581b56eeea653", func := "weirmaster/weirkeep.RepairSame", spec := "repairSame", unfollowed := true, recurses := true, apart := false, narrowed := true }
def RepairSameUptoSaid : Prop := repairSameUptoRow.holds Try.pinned (OpenSpec.upto repairSameSpec)

/-- 'weirtop.TopRepair', WHERE WHAT IT READS IS OF BULK AT MOST 1048576: true; the input reads as it did. -/
def topRepairUptoRow : OpenClaim := { program := "ytppohimlocaaoaa", sum := "acd956ea31fae4f9013fe192f5a901088f4b7e4dc4b8660d613581b56eeea653", func := "weirmaster/weirtop.TopRepair", spec := "topRepair", unfollowed := true, recurses := true, apart := false, narrowed := true }
def TopRepairUptoSaid : Prop := topRepairUptoRow.holds Try.pinned (OpenSpec.upto topRepairSpec)

/-- 'weirkeep.StoreUndo', WHERE WHAT IT READS IS OF BULK AT MOST 1048576: true; the input reads as it did. -/
def storeUndoUptoRow : OpenClaim := { program := "ytppohimlocaaoaa", sum := "acd956ea31fae4f9013fe192f5a901088f4b7e4dc4b8660d613581b56eeea653", func := "weirmaster/weirkeep.StoreUndo", spec := "storeUndo", unfollowed := true, recurses := true, apart := false, narrowed := true }
def StoreUndoUptoSaid : Prop := storeUndoUptoRow.holds Try.pinned (OpenSpec.upto storeUndoSpec)

/-- 'weirkeep.StoreSaves', WHERE WHAT IT READS IS OF BULK AT MOST 1048576: true; the input reads as it did. -/
def storeSavesUptoRow : OpenClaim := { program := "ytppohimlocaaoaa", sum := "acd956ea31fae4f9013fe192f5a901088f4b7e4dc4b8660d613581b56eeea653", func := "weirmaster/weirkeep.StoreSaves", spec := "storeSaves", unfollowed := true, recurses := true, apart := false, narrowed := true }
def StoreSavesUptoSaid : Prop := storeSavesUptoRow.holds Try.pinned (OpenSpec.upto storeSavesSpec)

/-- 'weirkeep.StoreFresh', WHERE WHAT IT READS IS OF BULK AT MOST 1048576: true; the input reads as it did. -/
def storeFreshUptoRow : OpenClaim := { program := "ytppohimlocaaoaa", sum := "acd956ea31fae4f9013fe192f5a901088f4b7e4dc4b8660d613581b56eeea653", func := "weirmaster/weirkeep.StoreFresh", spec := "storeFresh", unfollowed := true, recurses := true, apart := false, narrowed := true }
def StoreFreshUptoSaid : Prop := storeFreshUptoRow.holds Try.pinned (OpenSpec.upto storeFreshSpec)

/-- 'weirkeep.StoreRefuses', WHERE WHAT IT READS IS OF BULK AT MOST 1048576: true; the input reads as it did. -/
def storeRefusesUptoRow : OpenClaim := { program := "ytppohimlocaaoaa", sum := "acd956ea31fae4f9013fe192f5a901088f4b7e4dc4b8660d613581b56eeea653", func := "weirmaster/weirkeep.StoreRefuses", spec := "storeRefuses", unfollowed := true, recurses := true, apart := false, narrowed := true }
def StoreRefusesUptoSaid : Prop := storeRefusesUptoRow.holds Try.pinned (OpenSpec.upto storeRefusesSpec)

/-- 'weirtop.TopStore', WHERE WHAT IT READS IS OF BULK AT MOST 1048576: true; the input reads as it did. -/
def topStoreUptoRow : OpenClaim := { program := "ytppohimlocaaoaa", sum := "acd956ea31fae4f9013fe192f5a901088f4b7e4dc4b8660d613581b56eeea653", func := "weirmaster/weirtop.TopStore", spec := "topStore", unfollowed := true, recurses := true, apart := false, narrowed := true }
def TopStoreUptoSaid : Prop := topStoreUptoRow.holds Try.pinned (OpenSpec.upto topStoreSpec)

/-- 'weirkeep.MatchMore', WHERE WHAT IT READS IS OF BULK AT MOST 1048576: true; the input reads as it did. -/
def matchMoreUptoRow : OpenClaim := { program := "ytppohimlocaaoaa", sum := "acd956ea31fae4f9013fe192f5a901088f4b7e4dc4b8660d613581b56eeea653", func := "weirmaster/weirkeep.MatchMore", spec := "matchMore", unfollowed := true, recurses := true, apart := false, narrowed := true }
def MatchMoreUptoSaid : Prop := matchMoreUptoRow.holds Try.pinned (OpenSpec.upto matchMoreSpec)

/-- 'weirkeep.MatchHolds', WHERE WHAT IT READS IS OF BULK AT MOST 1048576: true; the input reads as it did. -/
def matchHoldsUptoRow : OpenClaim := { program := "ytppohimlocaaoaa", sum := "acd956ea31fae4f9013fe192f5a901088f4b7e4dc4b8660d613581b56eeea653", func := "weirmaster/weirkeep.MatchHolds", spec := "matchHolds", unfollowed := true, recurses := true, apart := false, narrowed := true }
def MatchHoldsUptoSaid : Prop := matchHoldsUptoRow.holds Try.pinned (OpenSpec.upto matchHoldsSpec)

/-- 'weirkeep.MatchHall', WHERE WHAT IT READS IS OF BULK AT MOST 1048576: true; the input reads as it did. -/
def matchHallUptoRow : OpenClaim := { program := "ytppohimlocaaoaa", sum := "acd956ea31fae4f9013fe192f5a901088f4b7e4dc4b8660d613581b56eeea653", func := "weirmaster/weirkeep.MatchHall", spec := "matchHall", unfollowed := true, recurses := true, apart := false, narrowed := true }
def MatchHallUptoSaid : Prop := matchHallUptoRow.holds Try.pinned (OpenSpec.upto matchHallSpec)

end Rows
end Go.Proofs.Ytppohimlocaaoaa
