/- StoreOwn: the law's function answers true. -/
import Derived.Test.YtfnldmbomampiaaPstore
import Derived.Test.YtfnldmbomampiaaKStoreOwn
namespace Go.Proofs.Ytfnldmbomampiaa
open Go Go.Proofs.Ytfnldmbomampiaa.Sx
set_option linter.unusedVariables false
set_option linter.unusedSimpArgs false
theorem StoreOwn_true (l : List Deed) : weirkeep_StoreOwn_F l = some true := by
  obtain ⟨s, hs, hf⟩ := worked_ok l
  unfold weirkeep_StoreOwn_F
  rw [stores_ok, bind_some', if_neg (by decide), hs, bind_some', net_ok hf, bind_some']
  dsimp only
  rw [net_ok hf, bind_some']
  dsimp only
  rw [show weirkeep_spoil_Arc_F s.now.net.as ⟨-1, 0, 0⟩ = some () from rfl, bind_some', net_ok hf, bind_some']
  dsimp only
  rw [same_net, bind_some', if_pos rfl]
  rcases checkNet_cases s.now.net with ⟨_, h⟩ | ⟨h, _⟩
  · rw [h, bind_some']; rfl
  · exact absurd hf.now.ok h
end Go.Proofs.Ytfnldmbomampiaa
