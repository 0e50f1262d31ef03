/- StoreFresh: the law's function answers true. -/
import Derived.Test.YtfnldmbomampiaaPstore
import Derived.Test.YtfnldmbomampiaaKStoreFresh
namespace Go.Proofs.Ytfnldmbomampiaa
open Go Go.Proofs.Ytfnldmbomampiaa.Sx
set_option linter.unusedVariables false
set_option linter.unusedSimpArgs false
theorem StoreFresh_true (l : List Deed) : weirkeep_StoreFresh_F l = some true := by
  obtain ⟨s, hs, hf⟩ := worked_ok l
  obtain ⟨low, v, hl, _, _⟩ := least_ok hf.now.ok
  unfold weirkeep_StoreFresh_F
  rw [stores_ok, bind_some', if_neg (by decide), hs, bind_some', net_ok hf, bind_some']
  dsimp only
  rw [do_value hl, bind_some']
  dsimp only
  rw [do_side hl, bind_some']
  dsimp only
  rw [do_weight, bind_some']
  dsimp only
  rw [hl, bind_some']
  dsimp only
  rw [if_pos rfl, if_pos rfl, if_pos rfl, if_pos rfl, if_pos rfl, if_pos rfl, if_pos rfl, net_ok hf, bind_some']
  dsimp only
  rw [same_net, bind_some']
end Go.Proofs.Ytfnldmbomampiaa
