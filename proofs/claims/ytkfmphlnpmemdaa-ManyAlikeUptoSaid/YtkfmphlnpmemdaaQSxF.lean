import Derived.Test.YtkfmphlnpmemdaaQSxE
import Derived.OrdersHeld
set_option linter.unusedVariables false
set_option linter.unusedSimpArgs false
namespace Go.Proofs.Ytkfmphlnpmemdaa.Sx
open Go
inductive Plan where
  | done
  | q (i : Nat) (p : Plan)
  | one (i : Nat) (p : Plan)
  | two (i j : Nat) (p p' : Plan)
  | three (i j l : Nat) (p p' p'' : Plan)
def planOk (all : Array Oper) : Plan → Nat → Array Bool → Bool
  | .done, _, listed => decide (Region.ready .any all listed = [])
  | .q i p, f + 1, listed => (Region.ready .any all listed).contains i && Region.free .any all listed i && planOk all p f (listed.setIfInBounds i true)
  | .one i p, f + 1, listed => decide (Region.ready .any all listed = [i]) && planOk all p f (listed.setIfInBounds i true)
  | .two i j p p', f + 1, listed => decide (Region.ready .any all listed = [i, j]) && planOk all p f (listed.setIfInBounds i true) && planOk all p' f (listed.setIfInBounds j true)
  | .three i j l p p' p'', f + 1, listed => decide (Region.ready .any all listed = [i, j, l]) && planOk all p f (listed.setIfInBounds i true) && planOk all p' f (listed.setIfInBounds j true) && planOk all p'' f (listed.setIfInBounds l true)
  | _, 0, _ => false
def bk (env : List (Nat × D)) (k : Nat) : BK := match look env k with
  | some (.ptr β _ _ _) => β
  | some (.own β _ _ _) => β
  | _ => ⟨0, 0, 0⟩
def rowsOf (s : St) : List (Nat × TypeId × Nat × C) → List HL
  | [] => []
  | (k, t, size, c) :: l => .one (bk s.env k) t size c :: rowsOf s l
section
variable {X : Cx} {fn : Func} {R : Ending → World → Prop} {k : List It} {s s' : St} {all : Array Oper} {H0 : List HL} {p p1 p2 : Plan}
class KeepOk (ds : List Deferred) (fn : Func) (dst : Option Tmp) : Prop where
  h : ds = [] ∨ ∀ (a : Act) (v : Value), results fn (a.put dst v).tmps = results fn a.tmps
instance (fn : Func) (dst : Option Tmp) : KeepOk [] fn dst := ⟨.inl rfl⟩
section
variable {d : Option Tmp} {t : Tmp} {op : Op} {ty : TypeId} {pos : String} {aft : Array Edge} {gd : Option (Nat × Bool)} {i j g : Nat} {want : Bool}
theorem Eff.pure {o : Oper} {H1 : List HL} (hp : PureStep X H1 o s s') : Eff X o s [] (fun s2 => s2 = s') := fun I a w hs Q => by
  obtain ⟨v, h1, h2⟩ := hp I a w hs
  exact wp_val (h1 w fun _ _ => rfl) ⟨Same.refl _ _, s', rfl, h2⟩
end
end
end Go.Proofs.Ytkfmphlnpmemdaa.Sx
