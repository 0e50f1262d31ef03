/- WalkTurned: the law's function answers true. -/
import Derived.Test.YtmgldjkgneiejaaPwalk
import Derived.Test.YtmgldjkgneiejaaPkeep
import Derived.Test.YtmgldjkgneiejaaKWalkTurned
namespace Go.Proofs.Ytmgldjkgneiejaa
open Go Go.Proofs.Ytmgldjkgneiejaa.Sx
set_option linter.unusedVariables false
set_option linter.unusedSimpArgs false
theorem walks_eq : weirkeep_walks_F = some true := by kernel_rfl
theorem far_turned {g : Graph} (hg : Ok g) {s t : Int} {far bys far2 bys2 : List Int} (h : Searched g s far bys) (h2 : Searched ⟨g.n, g.as.map turnA⟩ t far2 bys2) (hs0 : 0 ≤ s) (hs1 : s < g.n) (ht0 : 0 ≤ t) (ht1 : t < g.n) : atI far t = atI far2 s := by
  have e1 : ∀ a, a ∈ g.as → ∃ b, b ∈ g.as.map turnA ∧ b.f = a.t ∧ b.t = a.f := fun a ha => ⟨turnA a, List.mem_map_of_mem ha, rfl, rfl⟩
  have e2 : ∀ b, b ∈ g.as.map turnA → ∃ a, a ∈ g.as ∧ a.f = b.t ∧ a.t = b.f := fun b hb => by
    obtain ⟨a, ha, rfl⟩ := List.mem_map.1 hb
    exact ⟨a, ha, rfl, rfl⟩
  have l1 := h.lo t ht0 ht1
  have l2 := h2.lo s hs0 hs1
  by_cases p : 0 ≤ atI far t
  · have w := (h.way t ht0 ht1 p).turn e1
    have := h2.le w
    have w2 := (h2.way s hs0 hs1 this.1).turn e2
    have := h.le w2
    omega
  · by_cases p2 : 0 ≤ atI far2 s
    · have w2 := (h2.way s hs0 hs1 p2).turn e2
      have := h.le w2
      omega
    · omega
theorem WalkTurned_true (g : Graph) (s t : Int) : weirkeep_WalkTurned_F g s t = some true := by
  unfold weirkeep_WalkTurned_F
  rw [walks_eq, bind_some', turn_eq, bind_some']
  simp only [Bool.not_true, Bool.false_eq_true, if_false]
  by_cases hc : checkF g (-10000) = 0
  · simp only [if_pos hc]
    have hg := (checkF_ok g _).1 hc
    rcases search_cases g s with ⟨e, he, h1, _⟩ | ⟨_, hs0, hs1, far, bys, h1, h2⟩
    · rw [far_eq h1, bind_some']
      rcases search_cases ⟨g.n, g.as.map turnA⟩ t with ⟨e2, he2, h3, _⟩ | ⟨_, _, _, far2, bys2, h3, _⟩
      · rw [far_eq h3, bind_some']; simp [he]
      · rw [far_eq h3, bind_some']; simp [he]
    · rw [far_eq h1, bind_some']
      rcases search_cases ⟨g.n, g.as.map turnA⟩ t with ⟨e2, he2, h3, _⟩ | ⟨_, ht0, ht1, far2, bys2, h3, h4⟩
      · rw [far_eq h3, bind_some']; simp [he2]
      · have ht1' : t < g.n := ht1
        have l1 := h2.l1
        have l2 : far2.length = g.n.toNat := h4.l1
        rw [far_eq h3, bind_some']; dsimp only
        rw [if_neg (by simp), if_neg (by simp), if_neg (by simp), if_neg (by omega), if_neg (by omega), ck_some ⟨ht0, by omega⟩, ck_some ⟨hs0, by omega⟩]
        exact congrArg some (decide_eq_true (far_turned hg h2 h4 hs0 hs1 ht0 ht1'))
  · simp only [if_neg hc]
    rcases search_cases g s with ⟨e, he, h1, _⟩ | ⟨hg, _⟩
    · rw [far_eq h1, bind_some']
      rcases search_cases ⟨0, []⟩ t with ⟨e2, he2, h3, _⟩ | ⟨_, _, _, far2, bys2, h3, _⟩
      · rw [far_eq h3, bind_some']; dsimp only; rw [if_pos hc]
      · rw [far_eq h3, bind_some']; dsimp only; rw [if_pos hc]
    · exact absurd ((checkF_ok g _).2 hg) hc
end Go.Proofs.Ytmgldjkgneiejaa
