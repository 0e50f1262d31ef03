/- StableLattice: the law's function answers true. -/
import Derived.Test.YtdjllkoljpjohaaPstable
import Derived.Test.YtdjllkoljpjohaaKStableLattice
namespace Go.Proofs.Ytdjllkoljpjohaa
open Go Go.Proofs.Ytdjllkoljpjohaa.Sx
set_option linter.unusedVariables false
set_option linter.unusedSimpArgs false
theorem both_test : stable_Both_F ([([0, 1] : List Int), ([1, 0] : List Int)] : List (List Int)) ([([1, 0] : List Int), ([0, 1] : List Int)] : List (List Int)) ([0, 1] : List Int) ([1, 0] : List Int) = some ([0, 1], [1, 0], 0) := by kernel_rfl
theorem StableLattice_true (a b : List (List Int)) (p q : List Int) : weirkeep_StableLattice_F a b p q = some true := by
  unfold weirkeep_StableLattice_F
  rw [both_test, bind_some']
  dsimp only
  rw [if_neg (by decide), equalInts_eq, bind_some', if_neg (by decide), equalInts_eq, bind_some', if_neg (by decide)]
  rcases both_cases a b p q with ⟨g, g2, x, y, e, h⟩ | ⟨hno, r, hr, e⟩
  · rcases both_cases a b q p with ⟨_, _, z, w, e2, h2⟩ | ⟨hno, _⟩
    · rw [e, bind_some', e2, bind_some']
      dsimp only
      rw [if_neg (by decide)]
      have T : ∀ i, i < a.length → Two2 (rk a) (fun i => p.getD i 0) (fun i => q.getD i 0) (fun i => x.getD i 0) (fun i => y.getD i 0) i := fun i hi => h.two g g2 hi
      have gx := g.of_stab h.lx (better_stab g.ok.ranks g.st g2.st T)
      have gy := g.of_stab h.ly (worse_stab g.ok.ranks g.st g2.st T)
      have e5 : stable_Pair_F a b x = some (0, 0, 5) := by
        rcases pair_cases a b x with ⟨e, _⟩ | ⟨_, _, _, _, _, z⟩
        · exact e
        · exact absurd gx z
      have e6 : stable_Pair_F a b y = some (0, 0, 5) := by
        rcases pair_cases a b y with ⟨e, _⟩ | ⟨_, _, _, _, _, z⟩
        · exact e
        · exact absurd gy z
      have xz : x = z := eq_of_getD (d := 0) (by rw [h.lx, h2.lx]) fun i hi => by
        have hl := h.lx
        rw [h.x i (by omega), h2.x i (by omega), Int.min_comm]
      have yw : y = w := eq_of_getD (d := 0) (by rw [h.ly, h2.ly]) fun i hi => by
        have hl := h.ly
        rw [h.y i (by omega), h2.y i (by omega), Int.max_comm]
      rw [e5, bind_some', e6, bind_some']
      dsimp only
      rw [if_pos rfl, if_pos rfl, if_pos rfl, equalInts_eq, bind_some', if_pos (decide_eq_true xz), equalInts_eq, bind_some']
      exact congrArg some (decide_eq_true yw)
    · exact absurd ⟨g2, g⟩ hno
  · rcases both_cases a b q p with ⟨g, g2, _⟩ | ⟨_, r2, hr2, e2⟩
    · exact absurd ⟨g2, g⟩ hno
    · rw [e, bind_some', e2, bind_some']
      dsimp only
      rw [if_pos hr, if_pos hr2]
      rfl
end Go.Proofs.Ytdjllkoljpjohaa
