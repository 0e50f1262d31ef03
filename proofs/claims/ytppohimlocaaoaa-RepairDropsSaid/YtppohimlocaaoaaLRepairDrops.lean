/- RepairDrops: the law's function answers true. -/
import Derived.Test.YtppohimlocaaoaaPdrop
import Derived.Test.YtppohimlocaaoaaKRepairDrops
namespace Go.Proofs.Ytppohimlocaaoaa
open Go Go.Proofs.Ytppohimlocaaoaa.Sx
set_option linter.unusedVariables false
set_option linter.unusedSimpArgs false
theorem repairsD_ok : weirkeep_repairs_F = some true := by kernel_rfl
theorem RepairDrops_true (n : Net) (a : Arc) : weirkeep_RepairDrops_F n a = some true := by
  unfold weirkeep_RepairDrops_F
  rw [repairsD_ok, bind_some', if_neg (by decide)]
  by_cases hn : OkNet n
  · have hm := hn.g.len
    dsimp only at hm
    obtain ⟨f, v, e, hf, hv, hM⟩ := of_max hn
    subst hv
    rw [e, bind_some']
    dsimp only
    rw [if_neg (by decide)]
    by_cases ha : OkNet (addN n a)
    · obtain ⟨g, w, e1, h1, h2, h3⟩ := repair_add hf hM ha
      have hl : (addN n a).as.length = n.as.length + 1 := by show (n.as ++ [a]).length = _; simp
      obtain ⟨o, x, e2, h4, h5, h6, h7, h8⟩ := repair_drop h1 (by rw [show netAt (addN n a).as g (addN n a).s = w from h2]; exact h3) (k := n.as.length) (by omega)
      have hd : delN (addN n a) n.as.length = n := by
        unfold delN addN
        dsimp only
        rw [del_last]
      rw [hd] at e2 h4 h5 h6
      have hx := h6.uniq hM
      have h2' : netAt (addN n a).as g (addN n a).s = w := h2
      rw [e1, bind_some']
      dsimp only
      rw [if_neg (by decide), e2, bind_some']
      dsimp only
      have hc : flow_Check_F n o = some 0 := by
        rcases flowCheck_cases n o with ⟨_, h⟩ | ⟨h, _⟩
        · exact h
        · exact absurd h4 h
      rw [if_pos rfl, equalArcs_eq, bind_some', if_pos (decide_eq_true rfl), if_pos rfl, if_pos rfl, if_pos hx, if_pos (by omega), hc, bind_some']
      rfl
    · obtain ⟨e1, he, e2⟩ := repair_addBad hf hM ha
      rw [e2, bind_some']
      dsimp only
      rw [if_pos he]
      rfl
  · obtain ⟨e, he, _, h⟩ := of_bad hn
    rw [h, bind_some']
    dsimp only
    rw [if_pos he]
    rfl
end Go.Proofs.Ytppohimlocaaoaa
