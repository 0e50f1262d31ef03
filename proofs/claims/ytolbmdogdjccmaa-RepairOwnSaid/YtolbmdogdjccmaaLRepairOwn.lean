/- RepairOwn: the law's function answers true. -/
import Derived.Test.YtolbmdogdjccmaaPdrop
import Derived.Test.YtolbmdogdjccmaaKRepairOwn
namespace Go.Proofs.Ytolbmdogdjccmaa
open Go Go.Proofs.Ytolbmdogdjccmaa.Sx
set_option linter.unusedVariables false
set_option linter.unusedSimpArgs false
theorem repairsO_ok : weirkeep_repairs_F = some true := by kernel_rfl
/-- whatever k and takes are, Cap answers -/
theorem cap_any {n : Net} {f : List Int} (hf : Flow n f) (hmax : MaxV n (netAt n.as f n.s)) (k takes : Int) : (∃ e, e ≠ 0 ∧ repair_Cap_F n f k takes = some (⟨0, 0, 0, []⟩, [], 0, e)) ∨ ∃ k' : Nat, k = (k' : Int) ∧ k' < n.as.length ∧ ∃ m g w, repair_Cap_F n f k takes = some (m, g, w, 0) := by
  have hc := repair_check hf hmax
  by_cases c1 : k < 0
  · left; refine ⟨5, by decide, ?_⟩
    unfold repair_Cap_F
    rw [hc, bind_some', if_neg (by decide), if_pos c1]
  by_cases c2 : ((n.as.length : Nat) : Int) ≤ k
  · left; refine ⟨5, by decide, ?_⟩
    unfold repair_Cap_F
    rw [hc, bind_some', if_neg (by decide), if_neg c1, if_pos c2]
  by_cases c3 : takes < 0
  · left; refine ⟨1, by decide, ?_⟩
    unfold repair_Cap_F
    rw [hc, bind_some', if_neg (by decide), if_neg c1, if_neg c2, if_pos c3]
  by_cases c4 : 10000 < takes
  · left; refine ⟨1, by decide, ?_⟩
    unfold repair_Cap_F
    rw [hc, bind_some', if_neg (by decide), if_neg c1, if_neg c2, if_neg c3, if_pos c4]
  right
  obtain ⟨k', rfl⟩ : ∃ k' : Nat, k = (k' : Int) := ⟨k.toNat, by omega⟩
  obtain ⟨g, w, e, _⟩ := repair_cap hf hmax (k := k') (by omega) (takes := takes) (by omega) (by omega)
  exact ⟨k', rfl, by omega, _, _, _, e⟩
theorem RepairOwn_true (n : Net) (k takes : Int) : weirkeep_RepairOwn_F n k takes = some true := by
  unfold weirkeep_RepairOwn_F
  rw [repairsO_ok, bind_some', if_neg (by decide)]
  by_cases hn : OkNet n
  · have hm := hn.g.len
    dsimp only at hm
    obtain ⟨f, v, e, hf, hv, hM⟩ := of_max hn
    have hfl := hf.len
    subst hv
    obtain ⟨m, g, w, i, e1⟩ : ∃ m g w i, repair_Cap_F n f k takes = some (m, g, w, i) := by
      rcases cap_any hf hM k takes with ⟨e, _, h⟩ | ⟨_, _, _, m, g, w, h⟩
      · exact ⟨_, _, _, _, h⟩
      · exact ⟨_, _, _, _, h⟩
    obtain ⟨m', g', w', i', e2⟩ : ∃ m g w i, repair_Drop_F n f k = some (m, g, w, i) := by
      rcases cap_any hf hM k 0 with ⟨e, he, h⟩ | ⟨k', rfl, hk, _⟩
      · refine ⟨⟨0, 0, 0, []⟩, [], 0, e, ?_⟩
        unfold repair_Drop_F
        rw [h, bind_some']
        dsimp only
        rw [if_pos he]
      · obtain ⟨g, w, h, _⟩ := repair_drop hf hM hk
        exact ⟨_, _, _, _, h⟩
    rw [e, bind_some']
    dsimp only
    rw [if_neg (by decide), cloneInts_eq (by omega), bind_some', clone_eq (by omega), bind_some', e1, bind_some']
    dsimp only
    simp only [weirkeep_spoil_Arc_F, weirkeep_spoil_int_F, bind_some']
    rw [e2, bind_some']
    rw [equalInts_eq, bind_some', if_pos (decide_eq_true rfl), equalArcs_eq, bind_some', decide_eq_true rfl]
  · obtain ⟨e, he, _, h⟩ := of_bad hn
    rw [h, bind_some']
    dsimp only
    rw [if_pos he]
end Go.Proofs.Ytolbmdogdjccmaa
