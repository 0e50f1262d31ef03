/- Graphs as data, and how a value reads as one. -/
import Derived.Test.YtmgldjkgneiejaaSxE
namespace Go.Proofs.Ytmgldjkgneiejaa.Sx
open Go
set_option linter.unusedVariables false
set_option linter.unusedSimpArgs false

structure Arc where
  f : Int
  t : Int
  c : Int
structure Graph where
  n : Int
  as : List Arc
def arcD (a : Arc) : Nat → D
  | 0 => .v (.int .i64 a.f)
  | 1 => .v (.int .i64 a.t)
  | 2 => .v (.int .i64 a.c)
  | _ => .junk
def arcs (l : List Arc) : C := ⟨l.length, fun e f => arcD (l.getD e ⟨0, 0, 0⟩) f⟩
@[simp] theorem arcs_len (l : List Arc) : (arcs l).len = l.length := rfl
def arcsD (l : List Arc) : D := .sl 3 l.length (arcs l).get
def graphD (g : Graph) : D := .ag 2 (nth [.v (.int .i64 g.n), arcsD g.as])
def intsD (l : List Int) : D := .sl 1 l.length (ints l).get
def boolsD (l : List Bool) : D := .sl 1 l.length (bools l).get
instance (a : Arc) (i : Nat) : Indep (arcD a i) := ⟨fun I w v h w' => by
  match i, h with
  | 0, h => exact h
  | 1, h => exact h
  | 2, h => exact h
  | n + 3, _ => exact trivial⟩
instance (l : List Arc) : IndepC (arcs l) := ⟨fun _ _ => inferInstanceAs (Indep (arcD _ _))⟩
theorem bo_true {p : Prop} [Decidable p] (h : p) : D.v (.bool (decide p)) = D.bo true := by rw [decide_eq_true h]
theorem bo_false {p : Prop} [Decidable p] (h : ¬ p) : D.v (.bool (decide p)) = D.bo false := by rw [decide_eq_false h]
theorem cat_arc1 {xs : List Arc} {len : Nat} {g : Nat → Nat → D} {a : Arc} (hl : xs.length = len) (h : ∀ f, f < 3 → g 0 f = arcD a f) : Cat 3 (arcs xs) 0 len 1 g (arcs (xs ++ [a])) := by
  subst hl
  exact ⟨by simp [arcs], fun e f he _ => by simp [arcs, he, List.getElem?_append_left], fun e f he hf => by
    have he0 : e = 0 := by omega
    subst he0
    rw [h f hf]; simp [arcs]⟩
theorem cat_i1 {xs : List Int} {len : Nat} {g : Nat → Nat → D} {v : Int} (hl : xs.length = len) (h : g 0 0 = .v (.int .i64 v)) : Cat 1 (ints xs) 0 len 1 g (ints (xs ++ [v])) := by
  subst hl; exact cat_int1 h
theorem cat_b1 {xs : List Bool} {len : Nat} {g : Nat → Nat → D} {v : Bool} (hl : xs.length = len) (h : g 0 0 = .v (.bool v)) : Cat 1 (bools xs) 0 len 1 g (bools (xs ++ [v])) := by
  subst hl; exact cat_bool1 h
theorem flat_arcs1 (a : Arc) : flat 3 (arcs [a]) = [.v (.int .i64 a.f), .v (.int .i64 a.t), .v (.int .i64 a.c)] := rfl
end Go.Proofs.Ytmgldjkgneiejaa.Sx
