/- StoreRefuses: the law's function answers true. -/
import Derived.Test.YtfnldmbomampiaaPstore
import Derived.Test.YtfnldmbomampiaaKStoreRefuses
namespace Go.Proofs.Ytfnldmbomampiaa
open Go Go.Proofs.Ytfnldmbomampiaa.Sx
set_option linter.unusedVariables false
set_option linter.unusedSimpArgs false
theorem StoreRefuses_true (l : List Deed) (d : Deed) (m : List Deed) : weirkeep_StoreRefuses_F l d m = some true := by
  obtain ⟨s, hs, hf⟩ := worked_ok l
  obtain ⟨v, e, s', h1, h2, h3⟩ := do_did hf d
  unfold weirkeep_StoreRefuses_F
  rw [stores_ok, bind_some', if_neg (by decide), hs, bind_some', bind_some', h1, bind_some']
  dsimp only
  by_cases he : e = 0
  · rw [if_pos he]
  rw [if_neg he]
  have es := h3.same he
  subst es
  obtain ⟨⟨a, b⟩, hq, ⟨hab, ha⟩⟩ := forC_inv (f := weirkeep_StoreRefuses_B1 m) (fun _ (x : Store × Store) => x.1 = x.2 ∧ Fine x.1) (n := m.length) (k := 0) (s := (s', s')) ⟨rfl, hf⟩ fun j x _ _ ⟨hx, hx2⟩ => by
    obtain ⟨a, b⟩ := x
    dsimp only at hx hx2
    subst hx
    obtain ⟨v, e, t, g1, g2, _⟩ := do_did hx2 (m.getD j El.d)
    refine ⟨(t, t), ?_, rfl, g2⟩
    unfold weirkeep_StoreRefuses_B1
    dsimp only
    rw [g1, bind_some']
    dsimp only
    rw [bind_some']
    dsimp only
    rw [if_neg (fun z => z rfl), if_neg (fun z => z rfl)]
  dsimp only at hab ha
  subst hab
  rw [hq, bind_some']
  dsimp only
  rw [net_ok ha, bind_some']
  dsimp only
  rw [bind_some']
  dsimp only
  rw [same_net, bind_some']
end Go.Proofs.Ytfnldmbomampiaa
