/- GraphOwn: the law's function answers true. -/
import Derived.Test.YtolbmdogdjccmaaPkeep
import Derived.Test.YtolbmdogdjccmaaPless
import Derived.Test.YtolbmdogdjccmaaKGraphOwn
namespace Go.Proofs.Ytolbmdogdjccmaa
open Go Go.Proofs.Ytolbmdogdjccmaa.Sx
set_option linter.unusedVariables false
set_option linter.unusedSimpArgs false
theorem own_line : graph_Turn_F ⟨3, [⟨0, 1, 4⟩, ⟨1, 2, 3⟩]⟩ = some (⟨3, [⟨1, 0, 4⟩, ⟨2, 1, 3⟩]⟩, 0) := by kernel_rfl
theorem own_clone {l : List Arc} (h : l.length + 1 ≤ 5864062014805) : slices_Clone_Arc_F l = some l := by
  unfold slices_Clone_Arc_F
  rw [ck_some (by omega)]; rfl
theorem none1 {l : List Arc} (h : ∀ a, a ∈ l → 0 ≤ a.f) : slices_ContainsFunc_Arc_weirkeep_GraphOwn_c1_F l = some false := by
  unfold slices_ContainsFunc_Arc_weirkeep_GraphOwn_c1_F slices_IndexFunc_Arc_weirkeep_GraphOwn_c1_F
  rw [forC_all fun j _ hj => ?_]
  · rfl
  · unfold slices_IndexFunc_Arc_weirkeep_GraphOwn_c1_B1 weirkeep_GraphOwn_c1_F
    have := h _ (mem_getD (d := El.d) (show j < l.length by omega))
    rw [bind_some', if_neg (by rw [decide_eq_false (by omega)]; decide)]
theorem none2 {l : List Arc} (h : ∀ a, a ∈ l → 0 ≤ a.f) : slices_ContainsFunc_Arc_weirkeep_GraphOwn_c2_F l = some false := by
  unfold slices_ContainsFunc_Arc_weirkeep_GraphOwn_c2_F slices_IndexFunc_Arc_weirkeep_GraphOwn_c2_F
  rw [forC_all fun j _ hj => ?_]
  · rfl
  · unfold slices_IndexFunc_Arc_weirkeep_GraphOwn_c2_B1 weirkeep_GraphOwn_c2_F
    have := h _ (mem_getD (d := El.d) (show j < l.length by omega))
    rw [bind_some', if_neg (by rw [decide_eq_false (by omega)]; decide)]
theorem GraphOwn_true (g : Graph) (k : Int) (sz : g.as.length + 1 ≤ 5864062014805) : weirkeep_GraphOwn_F g k = some true := by
  have hT : ∃ h e, graph_Turn_F g = some (h, e) ∧ ∀ a, a ∈ h.as → 0 ≤ a.f := by
    by_cases hc : checkF g (-10000) = 0
    · have hg := (checkF_ok g _).1 hc
      exact ⟨_, _, turn_ok hg, fun a ha => (hg.turn.arc a ha).f0⟩
    · exact ⟨_, _, turn_bad hc, fun a ha => by cases ha⟩
  have hW : ∃ h e, graph_Without_F g k = some (h, e) ∧ ∀ a, a ∈ h.as → 0 ≤ a.f := by
    rcases without_cases g k with ⟨e, he, h1⟩ | ⟨hg, h0, h1, h2⟩
    · exact ⟨_, _, h1, fun a ha => by cases ha⟩
    · exact ⟨_, _, h2, fun a ha => ((hg.less (show k.toNat < g.as.length by omega)).arc a ha).f0⟩
  obtain ⟨h, e, hT, hT1⟩ := hT
  obtain ⟨w, f, hW, hW1⟩ := hW
  unfold weirkeep_GraphOwn_F
  rw [line_eq, bind_some', own_line, bind_some']
  dsimp only
  rw [if_neg (by decide), if_neg (by decide), own_clone sz, bind_some', hT, bind_some']
  dsimp only
  rw [hW, bind_some']
  dsimp only
  simp only [weirkeep_spoil_Arc_F, bind_some']
  rw [equalArcs_eq, bind_some', if_pos (by simp), if_pos trivial, if_pos trivial, none1 hT1, bind_some', if_pos (by decide), none2 hW1, bind_some']
  rfl
end Go.Proofs.Ytolbmdogdjccmaa
