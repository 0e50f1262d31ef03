/-
  No cell of these rows narrows 'for every input' (looked for: loops, veiled, ifaces, maps, wideKeys, modest, calm, conditions, laid).
  DERIVED. THE GIVEN ROWS OF THIS SEAT. 7 by the template 'for every input the law returns true; each argument reads behind the call as it read before'; 0 by the template 'total and deterministic' (their statements: YtkpdkigkhbkfiaaTotals.lean).
  GIVEN WITH THE SEED: the statements are not yours to turn. If you find one false, say at which input.
  Laid BY PROGRAM, IN A SANDBOX (cutbox-rows.mjs): the forced cells as the released guide's own fill.sh prints them over the translation 254820bb45232b22… (all of the seat's roots in one cut). By AI agents, Wed Nov 11 2026. No macro, syntax, notation, axiom, sorry.
-/
import Derived.Test.YtkpdkigkhbkfiaaChecked
import GoSem.Claim
import GoSem.ClaimJoined
import GoSem.ClaimMapViews
import Derived.JoinedTies
import Derived.KernelRfl
namespace Go.Proofs.Ytkpdkigkhbkfiaa
/- THE CELL 'sum', in the pinned program and in every row, IS THE sha256 OF THE DUMP (.gsa) THAT YtkpdkigkhbkfiaaProg.lean LOADS. Nothing in Lean hashes anything: it is a label: what it is worth is what the hold of that sum in a sandbox is worth. -/
noncomputable def Try.pinned : Pinned := { name := "ytkpdkigkhbkfiaa", sum := "254820bb45232b222a8db99bc742a9d95112e2c89abbe202a4dd77971bb62dea", checked := Try.checked }
namespace Rows
def none {H : Type} : Left H := { results := [], args := [] }

/-- 'weirkeep.SpanCut': WHATEVER THE INPUT: true; the input reads as it did. -/
def spanCutSpec : ChangeSpec := { name := "spanCut", fn := fun _ => fun
  | [d1, d2] => { results := [.lit (.bool true)], args := [d1, d2] }
  | _ => none }
def spanCutRow : OpenClaim := { program := "ytkpdkigkhbkfiaa", sum := "254820bb45232b222a8db99bc742a9d95112e2c89abbe202a4dd77971bb62dea", func := "weirmaster/weirkeep.SpanCut", spec := "spanCut", unfollowed := true, recurses := true, apart := false }
def SpanCutSaid : Prop := spanCutRow.holds Try.pinned (OpenSpec.ofChange spanCutSpec)

/-- ITS FALSE NEIGHBOUR: 'it returns false'. Refute it at one input. -/
def spanCutWrong : ChangeSpec := { name := "spanCut", fn := fun _ => fun
  | [d1, d2] => { results := [.lit (.bool false)], args := [d1, d2] }
  | _ => none }
def SpanCutWrongFalsely : Prop := spanCutRow.holds Try.pinned (OpenSpec.ofChange spanCutWrong)

/-- 'weirkeep.SpanRound': WHATEVER THE INPUT: true; the input reads as it did. -/
def spanRoundSpec : ChangeSpec := { name := "spanRound", fn := fun _ => fun
  | [d1, d2] => { results := [.lit (.bool true)], args := [d1, d2] }
  | _ => none }
def spanRoundRow : OpenClaim := { program := "ytkpdkigkhbkfiaa", sum := "254820bb45232b222a8db99bc742a9d95112e2c89abbe202a4dd77971bb62dea", func := "weirmaster/weirkeep.SpanRound", spec := "spanRound", unfollowed := true, recurses := true, apart := false }
def SpanRoundSaid : Prop := spanRoundRow.holds Try.pinned (OpenSpec.ofChange spanRoundSpec)

/-- ITS FALSE NEIGHBOUR: 'it returns false'. Refute it at one input. -/
def spanRoundWrong : ChangeSpec := { name := "spanRound", fn := fun _ => fun
  | [d1, d2] => { results := [.lit (.bool false)], args := [d1, d2] }
  | _ => none }
def SpanRoundWrongFalsely : Prop := spanRoundRow.holds Try.pinned (OpenSpec.ofChange spanRoundWrong)

/-- 'weirkeep.SpanWide': WHATEVER THE INPUT: true; the input reads as it did. -/
def spanWideSpec : ChangeSpec := { name := "spanWide", fn := fun _ => fun
  | [d1, d2, d3] => { results := [.lit (.bool true)], args := [d1, d2, d3] }
  | _ => none }
def spanWideRow : OpenClaim := { program := "ytkpdkigkhbkfiaa", sum := "254820bb45232b222a8db99bc742a9d95112e2c89abbe202a4dd77971bb62dea", func := "weirmaster/weirkeep.SpanWide", spec := "spanWide", unfollowed := true, recurses := true, apart := false }
def SpanWideSaid : Prop := spanWideRow.holds Try.pinned (OpenSpec.ofChange spanWideSpec)

/-- ITS FALSE NEIGHBOUR: 'it returns false'. Refute it at one input. -/
def spanWideWrong : ChangeSpec := { name := "spanWide", fn := fun _ => fun
  | [d1, d2, d3] => { results := [.lit (.bool false)], args := [d1, d2, d3] }
  | _ => none }
def SpanWideWrongFalsely : Prop := spanWideRow.holds Try.pinned (OpenSpec.ofChange spanWideWrong)

/-- 'weirkeep.SpanJoins': WHATEVER THE INPUT: true; the input reads as it did. -/
def spanJoinsSpec : ChangeSpec := { name := "spanJoins", fn := fun _ => fun
  | [d] => { results := [.lit (.bool true)], args := [d] }
  | _ => none }
def spanJoinsRow : OpenClaim := { program := "ytkpdkigkhbkfiaa", sum := "254820bb45232b222a8db99bc742a9d95112e2c89abbe202a4dd77971bb62dea", func := "weirmaster/weirkeep.SpanJoins", spec := "spanJoins", unfollowed := true, recurses := true, apart := false }
def SpanJoinsSaid : Prop := spanJoinsRow.holds Try.pinned (OpenSpec.ofChange spanJoinsSpec)

/-- ITS FALSE NEIGHBOUR: 'it returns false'. Refute it at one input. -/
def spanJoinsWrong : ChangeSpec := { name := "spanJoins", fn := fun _ => fun
  | [d] => { results := [.lit (.bool false)], args := [d] }
  | _ => none }
def SpanJoinsWrongFalsely : Prop := spanJoinsRow.holds Try.pinned (OpenSpec.ofChange spanJoinsWrong)

/-- 'weirkeep.PairsFew': WHATEVER THE INPUT: true; the input reads as it did. -/
def pairsFewSpec : ChangeSpec := { name := "pairsFew", fn := fun _ => fun
  | [d] => { results := [.lit (.bool true)], args := [d] }
  | _ => none }
def pairsFewRow : OpenClaim := { program := "ytkpdkigkhbkfiaa", sum := "254820bb45232b222a8db99bc742a9d95112e2c89abbe202a4dd77971bb62dea", func := "weirmaster/weirkeep.PairsFew", spec := "pairsFew", recurses := true, apart := false }
def PairsFewSaid : Prop := pairsFewRow.holds Try.pinned (OpenSpec.ofChange pairsFewSpec)

/-- ITS FALSE NEIGHBOUR: 'it returns false'. Refute it at one input. -/
def pairsFewWrong : ChangeSpec := { name := "pairsFew", fn := fun _ => fun
  | [d] => { results := [.lit (.bool false)], args := [d] }
  | _ => none }
def PairsFewWrongFalsely : Prop := pairsFewRow.holds Try.pinned (OpenSpec.ofChange pairsFewWrong)

/-- 'weirkeep.AssignDual': WHATEVER THE INPUT: true; the input reads as it did. -/
def assignDualSpec : ChangeSpec := { name := "assignDual", fn := fun _ => fun
  | [d1, d2, d3, d4] => { results := [.lit (.bool true)], args := [d1, d2, d3, d4] }
  | _ => none }
def assignDualRow : OpenClaim := { program := "ytkpdkigkhbkfiaa", sum := "254820bb45232b222a8db99bc742a9d95112e2c89abbe202a4dd77971bb62dea", func := "weirmaster/weirkeep.AssignDual", spec := "assignDual", recurses := true, apart := false }
def AssignDualSaid : Prop := assignDualRow.holds Try.pinned (OpenSpec.ofChange assignDualSpec)

/-- ITS FALSE NEIGHBOUR: 'it returns false'. Refute it at one input. -/
def assignDualWrong : ChangeSpec := { name := "assignDual", fn := fun _ => fun
  | [d1, d2, d3, d4] => { results := [.lit (.bool false)], args := [d1, d2, d3, d4] }
  | _ => none }
def AssignDualWrongFalsely : Prop := assignDualRow.holds Try.pinned (OpenSpec.ofChange assignDualWrong)

/-- 'weirkeep.DoubleAdds': WHATEVER THE INPUT: true; the input reads as it did. -/
def doubleAddsSpec : ChangeSpec := { name := "doubleAdds", fn := fun _ => fun
  | [d1, d2, d3, d4] => { results := [.lit (.bool true)], args := [d1, d2, d3, d4] }
  | _ => none }
def doubleAddsRow : OpenClaim := { program := "ytkpdkigkhbkfiaa", sum := "254820bb45232b222a8db99bc742a9d95112e2c89abbe202a4dd77971bb62dea", func := "weirmaster/weirkeep.DoubleAdds", spec := "doubleAdds", recurses := true, apart := false }
def DoubleAddsSaid : Prop := doubleAddsRow.holds Try.pinned (OpenSpec.ofChange doubleAddsSpec)

/-- ITS FALSE NEIGHBOUR: 'it returns false'. Refute it at one input. -/
def doubleAddsWrong : ChangeSpec := { name := "doubleAdds", fn := fun _ => fun
  | [d1, d2, d3, d4] => { results := [.lit (.bool false)], args := [d1, d2, d3, d4] }
  | _ => none }
def DoubleAddsWrongFalsely : Prop := doubleAddsRow.holds Try.pinned (OpenSpec.ofChange doubleAddsWrong)

/- THE SECOND FORM. 'bulk': how many values and letters a reading holds, each counted each time it is reached (what is shared counts as often as it is met; a slice's spare places count too). A statement '..UptoSaid' is the law's where the arguments, and the package variables that the reading takes, are together of bulk at most 1048576: NARROWER than '..Said'. Prove '..Said' where nothing that the law and all that it calls make is longer than what came in: it says more and counts as full. Else prove '..UptoSaid'. A law counts once. -/
mutual
def uptoBulk {H : Type} : DataW H → Nat
  | .lit (.string bytes) => bytes.length + 1
  | .lit _ => 1
  | .nil => 1
  | .ptr d => uptoBulk d + 1
  | .slice elems spare => uptoBulkAll elems + uptoBulkAll spare + 1
  | .agg parts => uptoBulkAll parts + 1
  | .iface _ d => uptoBulk d + 1
  | .map entries => uptoBulkEntries entries + 1
  | .held _ => 1
def uptoBulkAll {H : Type} : List (DataW H) → Nat
  | [] => 0
  | d :: r => uptoBulk d + uptoBulkAll r
def uptoBulkEntries {H : Type} : List (Lit × DataW H) → Nat
  | [] => 0
  | x :: r => uptoBulkEntry x + uptoBulkEntries r
def uptoBulkEntry {H : Type} : Lit × DataW H → Nat
  | (.string bytes, d) => bytes.length + uptoBulk d + 1
  | (_, d) => uptoBulk d + 1
 end
def uptoSmall : (H : Type) → List (DataW H) → Bool := fun _ ds => decide (uptoBulkAll ds ≤ 1048576)
def OpenSpec.upto (s : _root_.Go.ChangeSpec) : _root_.Go.OpenSpec := { _root_.Go.OpenSpec.ofChange s with cond := some uptoSmall }

/-- 'weirkeep.SpanCut', WHERE WHAT IT READS IS OF BULK AT MOST 1048576: true; the input reads as it did. -/
def spanCutUptoRow : OpenClaim := { program := "ytkpdkigkhbkfiaa", sum := "254820bb45232b222a8db99bc742a9d95112e2c89abbe202a4dd77971bb62dea", func := "weirmaster/weirkeep.SpanCut", spec := "spanCut", unfollowed := true, recurses := true, apart := false, narrowed := true }
def SpanCutUptoSaid : Prop := spanCutUptoRow.holds Try.pinned (OpenSpec.upto spanCutSpec)

/-- 'weirkeep.SpanRound', WHERE WHAT IT READS IS OF BULK AT MOST 1048576: true; the input reads as it did. -/
def spanRoundUptoRow : OpenClaim := { program := "ytkpdkigkhbkfiaa", sum := "254820bb45232b222a8db99bc742a9d95112e2c89abbe202a4dd77971bb62dea", func := "weirmaster/weirkeep.SpanRound", spec := "spanRound", unfollowed := true, recurses := true, apart := false, narrowed := true }
def SpanRoundUptoSaid : Prop := spanRoundUptoRow.holds Try.pinned (OpenSpec.upto spanRoundSpec)

/-- 'weirkeep.SpanWide', WHERE WHAT IT READS IS OF BULK AT MOST 1048576: true; the input reads as it did. -/
def spanWideUptoRow : OpenClaim := { program := "ytkpdkigkhbkfiaa", sum := "254820bb45232b222a8db99bc742a9d95112e2c89abbe202a4dd77971bb62dea", func := "weirmaster/weirkeep.SpanWide", spec := "spanWide", unfollowed := true, recurses := true, apart := false, narrowed := true }
def SpanWideUptoSaid : Prop := spanWideUptoRow.holds Try.pinned (OpenSpec.upto spanWideSpec)

/-- 'weirkeep.SpanJoins', WHERE WHAT IT READS IS OF BULK AT MOST 1048576: true; the input reads as it did. -/
def spanJoinsUptoRow : OpenClaim := { program := "ytkpdkigkhbkfiaa", sum := "254820bb45232b222a8db99bc742a9d95112e2c89abbe202a4dd77971bb62dea", func := "weirmaster/weirkeep.SpanJoins", spec := "spanJoins", unfollowed := true, recurses := true, apart := false, narrowed := true }
def SpanJoinsUptoSaid : Prop := spanJoinsUptoRow.holds Try.pinned (OpenSpec.upto spanJoinsSpec)

/-- 'weirkeep.PairsFew', WHERE WHAT IT READS IS OF BULK AT MOST 1048576: true; the input reads as it did. -/
def pairsFewUptoRow : OpenClaim := { program := "ytkpdkigkhbkfiaa", sum := "254820bb45232b222a8db99bc742a9d95112e2c89abbe202a4dd77971bb62dea", func := "weirmaster/weirkeep.PairsFew", spec := "pairsFew", recurses := true, apart := false, narrowed := true }
def PairsFewUptoSaid : Prop := pairsFewUptoRow.holds Try.pinned (OpenSpec.upto pairsFewSpec)

/-- 'weirkeep.AssignDual', WHERE WHAT IT READS IS OF BULK AT MOST 1048576: true; the input reads as it did. -/
def assignDualUptoRow : OpenClaim := { program := "ytkpdkigkhbkfiaa", sum := "254820bb45232b222a8db99bc742a9d95112e2c89abbe202a4dd77971bb62dea", func := "weirmaster/weirkeep.AssignDual", spec := "assignDual", recurses := true, apart := false, narrowed := true }
def AssignDualUptoSaid : Prop := assignDualUptoRow.holds Try.pinned (OpenSpec.upto assignDualSpec)

/-- 'weirkeep.DoubleAdds', WHERE WHAT IT READS IS OF BULK AT MOST 1048576: true; the input reads as it did. -/
def doubleAddsUptoRow : OpenClaim := { program := "ytkpdkigkhbkfiaa", sum := "254820bb45232b222a8db99bc742a9d95112e2c89abbe202a4dd77971bb62dea", func := "weirmaster/weirkeep.DoubleAdds", spec := "doubleAdds", recurses := true, apart := false, narrowed := true }
def DoubleAddsUptoSaid : Prop := doubleAddsUptoRow.holds Try.pinned (OpenSpec.upto doubleAddsSpec)

end Rows
end Go.Proofs.Ytkpdkigkhbkfiaa
