import Derived.Test.YtkfmphlnpmemdaaQSxO
import Derived.Recover
set_option linter.unusedVariables false
set_option linter.unusedSimpArgs false
namespace Go.Proofs.Ytkfmphlnpmemdaa.Sx
open Go
inductive Thr (α β : Type) where
  | ok (a : α)
  | ex (b : β)
section
variable {P : Program} {fn : Func} {nt : Nat} {w0 : World} {I0 : Nat → Prop} {H0 : List HL} {tb : TB P w0 I0 H0} {post thr : D → List HL → Prop} {k : List It} {s : St} {d : D} {H' rest : List HL}
end
section
variable {X : Cx} {fn : Func} {R : Ending → World → Prop} {k : List It} {s s' : St} {all : Array Oper} {os : List Oper} {d : Tmp} {ty : TypeId} {pos : String} {aft : Array Edge} {gd : Option (Nat × Bool)} {x y : Operand} {q : D} {H0 : List HL} {p : Plan} {i j0 : Nat}
class NoIfc (P : Program) (t : TypeId) : Prop where
  h : ∃ u, P.underlying t = some u ∧ ∀ v, u ≠ .interface v
end
end Go.Proofs.Ytkfmphlnpmemdaa.Sx
