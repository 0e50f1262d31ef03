import Derived.Test.YtkfmphlnpmemdaaQSxL
set_option linter.unusedVariables false
set_option linter.unusedSimpArgs false
namespace Go.Proofs.Ytkfmphlnpmemdaa.Sx
open Go
theorem eldI : (El.d : Int) = 0 := rfl
section
variable {X : Cx} {fn : Func} {R : Ending → World → Prop} {k : List It} {s : St} {all : Array Oper} {os : List Oper} {d : Tmp} {ty : TypeId} {pos : String} {aft : Array Edge} {gd : Option (Nat × Bool)} {x y : Operand} {q : D} {H0 : List HL}
end
def gridC {α : Type} [El α] (B : Nat → BK) (xs : List (List α)) : C := ⟨xs.length, fun e _ => .own (B e) (El.size α) 0 (xs.getD e []).length⟩
def gridH {α : Type} [El α] (te : TypeId) (B : Nat → BK) (xs : List (List α)) : HL := .many xs.length B te (El.size α) (fun e => row (xs.getD e []))
section
variable {X : Cx} {s : St} {d : Tmp} {ty : TypeId} {pos : String} {aft : Array Edge} {gd : Option (Nat × Bool)} {x y : Operand} {q : D} {H0 : List HL}
end
section
variable {α : Type} [El α] {s : St} {te : TypeId} {B B1 : Nat → BK} {xs xs1 : List (List α)} {ys : List α} {i n : Nat} {β : BK} {r1 r2 : List HL}
end
section
variable {X : Cx} {fn : Func} {R : Ending → World → Prop} {k : List It} {s : St} {α : Type} [El α] {te to : TypeId} {B : Nat → BK} {xs : List (List α)} {βo : BK} {rest rest' : List HL} {j : Nat} {r : D}
end
instance {α : Type} [El α] {B : Nat → BK} {xs : List (List α)} : IndepC (gridC B xs) := ⟨fun _ _ => inferInstanceAs (Indep (.own _ _ _ _))⟩
instance {α : Type} [El α] [he : IndepE α] {te : TypeId} {B : Nat → BK} {xs : List (List α)} {H : List HL} [hh : IndepH H] : IndepH (gridH te B xs :: H) := ⟨fun x hx I w hk => by
  rcases List.mem_cons.1 hx with rfl | hx
  · exact ⟨fun i hi => BOk.indep inferInstance (hk.1 i hi), hk.2⟩
  · exact hh.h x hx I w hk⟩
end Go.Proofs.Ytkfmphlnpmemdaa.Sx
