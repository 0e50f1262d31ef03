/- TreeCayley: the law's function answers true. -/
import Derived.Test.YtblhoelmodbifaaPref
import Derived.Test.YtblhoelmodbifaaKTreeCayley
namespace Go.Proofs.Ytblhoelmodbifaa
open Go Go.Proofs.Ytblhoelmodbifaa.Sx
set_option linter.unusedVariables false
set_option linter.unusedSimpArgs false
theorem line_one : ((weirkeep_line_F).bind fun r1 => tree_Count_F r1) = some (1, 0) := by kernel_rfl
theorem TreeCayley_true (n : Int) : weirkeep_TreeCayley_F n = some true := by
  obtain ⟨r, e, h0, h1⟩ := rest_ok (n := n) (m := 7) (by decide) (by decide)
  have key : ∀ r : Int, 0 ≤ r → r < 7 → weirref_Rest_F n 7 = some r → weirkeep_TreeCayley_F n = some true := fun r h0 h1 e => by
    unfold weirkeep_TreeCayley_F
    rw [e]
    have : r = 0 ∨ r = 1 ∨ r = 2 ∨ r = 3 ∨ r = 4 ∨ r = 5 ∨ r = 6 := by omega
    rcases this with h | h | h | h | h | h | h
    · subst h; show _ = some true; kernel_rfl
    · subst h; show _ = some true; kernel_rfl
    · subst h; show _ = some true; kernel_rfl
    · subst h; show _ = some true; kernel_rfl
    · subst h; show _ = some true; kernel_rfl
    · subst h; show _ = some true; kernel_rfl
    · subst h; show _ = some true; kernel_rfl
  exact key r h0 h1 e
end Go.Proofs.Ytblhoelmodbifaa
