/- Sums over a list of arcs. -/
import Derived.Test.YtdpkdicciclobaaPmax
namespace Go.Proofs.Ytdpkdicciclobaa
open Go Go.Proofs.Ytdpkdicciclobaa.Sx
set_option linter.unusedVariables false
set_option linter.unusedSimpArgs false
/-! ### sums over a list of arcs -/
def lsA (g : Arc → Int) : List Arc → Int
  | [] => 0
  | a :: l => g a + lsA g l
theorem lsA_append (g : Arc → Int) : ∀ l m : List Arc, lsA g (l ++ m) = lsA g l + lsA g m
  | [], m => by simp [lsA]
  | a :: l, m => by rw [List.cons_append, lsA, lsA, lsA_append g l m]; omega
theorem tot_cons' (g : Nat → Int) (n : Nat) : tot g (n + 1) = g 0 + tot (fun i => g (i + 1)) n := by
  rw [Nat.add_comm, tot_split]
  simp only [tot]
  rw [tot_congr (f := fun i => g (1 + i)) (g := fun i => g (i + 1)) fun i _ => by rw [Nat.add_comm]]
  omega
theorem tot_lsA (g : Arc → Int) : ∀ l : List Arc, tot (fun k => g (l.getD k El.d)) l.length = lsA g l
  | [] => rfl
  | a :: l => by
    rw [List.length_cons, tot_cons', lsA, ← tot_lsA g l]
    rfl
def crossA (S : Int → Int) (a : Arc) : Int := if S a.f = 1 ∧ S a.t = 0 then a.c else 0
theorem capS_lsA (L : List Arc) (S : Int → Int) : capS L S = lsA (crossA S) L := tot_lsA (crossA S) L
theorem capS_append (L E : List Arc) (S : Int → Int) : capS (L ++ E) S = capS L S + capS E S := by rw [capS_lsA, capS_lsA, capS_lsA, lsA_append]
/-- what goes out of z if each arc takes all it can -/
def fullA (z : Int) (a : Arc) : Int := (if a.f = z then a.c else 0) - (if a.t = z then a.c else 0)
theorem netAt_full {L E : List Arc} {f : List Int} (h : ∀ i, i < E.length → f.getD (L.length + i) 0 = (E.getD i El.d).c) (z : Int) : netAt (L ++ E) f z = netAt L f z + lsA (fullA z) E := by
  unfold netAt
  rw [List.length_append, tot_split]
  congr 1
  · refine tot_congr fun k hk => ?_
    unfold term
    rw [show (L ++ E).getD k El.d = L.getD k El.d by simp only [List.getD_eq_getElem?_getD, List.getElem?_append_left hk]]
  · rw [← tot_lsA]
    refine tot_congr fun i hi => ?_
    unfold term fullA
    rw [show (L ++ E).getD (L.length + i) El.d = E.getD i El.d by simp only [List.getD_eq_getElem?_getD]; rw [List.getElem?_append_right (by omega), Nat.add_sub_cancel_left], h i hi]
end Go.Proofs.Ytdpkdicciclobaa
