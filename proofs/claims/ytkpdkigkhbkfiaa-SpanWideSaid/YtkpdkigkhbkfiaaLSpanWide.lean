/- SpanWide: the law's function answers true. -/
import Derived.Test.YtkpdkigkhbkfiaaPwide
import Derived.Test.YtkpdkigkhbkfiaaKSpanWide
namespace Go.Proofs.Ytkpdkigkhbkfiaa
open Go Go.Proofs.Ytkpdkigkhbkfiaa.Sx
set_option linter.unusedVariables false
set_option linter.unusedSimpArgs false
theorem wideline_eq : ((weirkeep_line_F).bind fun r2 => span_Wide_F r2 0 2) = some (4, 0) := by kernel_rfl
theorem SpanWide_true (g : Graph) (s t : Int) : weirkeep_SpanWide_F g s t = some true := by
  obtain ⟨ln, eln⟩ : ∃ ln, weirkeep_line_F = some ln := by
    cases h : weirkeep_line_F with
    | none => have := wideline_eq; rw [h] at this; cases this
    | some x => exact ⟨x, rfl⟩
  have ew := wideline_eq
  rw [eln, bind_some'] at ew
  unfold weirkeep_SpanWide_F
  rw [eln, bind_some', ew, bind_some']
  dsimp only
  rw [if_neg (by decide), if_neg (by decide)]
  by_cases hc : checkF g (-10000) = 0
  case neg =>
    rw [least_bad hc, bind_some', wide_bad hc, bind_some']
    dsimp only
    rw [if_pos hc, decide_eq_true rfl]
  have hg := (checkF_ok g _).1 hc
  have hl := hg.len
  have n0 := hg.n0
  have n1 := hg.n1
  obtain ⟨l, sm, e, hC⟩ := least_ok hg
  have ll : l.length ≤ 12 := by
    obtain ⟨P, _, _, h⟩ := hC.many
    omega
  rw [e, bind_some']
  dsimp only
  obtain ⟨m, e2, m1, m2, m3⟩ := forC_inv (f := weirkeep_SpanWide_B1 g l) (ρ := Bool) (fun j m => (∀ a, a ∈ m → a ∈ g.as) ∧ (∀ i : Nat, i < j → g.as.getD (l.getD i 0).toNat El.d ∈ m) ∧ m.length ≤ j) (n := l.length) (k := 0) (s := ([] : List Arc))
    ⟨fun a ha => (by cases ha), fun i hi => absurd hi (by omega), Nat.le_refl _⟩ fun j m _ hj ⟨i1, i2, i3⟩ => by
      have hj' : j < l.length := by omega
      have hi := hC.inA _ (mem_getD (d := 0) hj')
      have x0 := hi.1
      have x1 := hi.2
      unfold weirkeep_SpanWide_B1
      rw [if_neg (by omega), if_neg (by omega), ck_some ⟨x0, x1⟩, ck_some (by omega)]
      refine ⟨_, rfl, fun a ha => ?_, fun i hi => ?_, by rw [List.length_append, List.length_singleton]; omega⟩
      · rcases List.mem_append.1 ha with h | h
        · exact i1 a h
        · rw [List.mem_singleton.1 h]; exact mem_getD (by omega)
      · by_cases z : i = j
        · rw [z]; exact List.mem_append.2 (.inr (List.mem_singleton.2 rfl))
        · exact List.mem_append.2 (.inl (i2 i (by omega)))
  rw [Nat.zero_add] at m2 m3
  have hh : Ok ⟨g.n, m⟩ := ⟨n0, n1, by show m.length ≤ 60; omega, fun a ha => hg.arc a (m1 a ha)⟩
  -- what all arcs join these do
  have up : ∀ c x y, Con ⟨g.n, m⟩ c x y → Con g c x y := fun c x y h μ hμ => h μ fun a ha hc => hμ a (m1 a ha) hc
  have down : ∀ c x y, Con g c x y → Con ⟨g.n, m⟩ c x y := fun c x y h μ hμ => h μ fun a ha hc => by
    obtain ⟨k, hk, ek⟩ := getD_of_mem (d := El.d) ha
    have hk' : InA g (k : Int) := ⟨by omega, by omega⟩
    have ev : Even g μ (k : Int) := by
      have hmem : ∀ i, i ∈ l → capOf g i ≤ c → Even g μ i := fun i hi hci => by
        obtain ⟨j, hj, ej⟩ := getD_of_mem (d := 0) hi
        have := m2 j hj
        rw [ej] at this
        exact hμ _ this hci
      have ck' : capOf g (k : Int) ≤ c := by
        show (g.as.getD ((k : Nat) : Int).toNat El.d).c ≤ c
        rw [Int.toNat_natCast, ek]; exact hc
      by_cases z : (k : Int) ∈ l
      · exact hmem _ z ck'
      · refine hC.left _ hk' z μ fun i hi hlt => hmem i hi ?_
        have i0 := (hC.inA i hi).1
        have : capOf g i * 64 + i < capOf g (k : Int) * 64 + (k : Int) := hlt
        omega
    have : μ (g.as.getD ((k : Nat) : Int).toNat El.d).f = μ (g.as.getD ((k : Nat) : Int).toNat El.d).t := ev
    rw [Int.toNat_natCast, ek] at this
    exact this
  have same : span_Wide_F ⟨g.n, m⟩ s t = span_Wide_F g s t := by
    by_cases b : s < 0 ∨ g.n ≤ s ∨ t < 0 ∨ g.n ≤ t
    · rw [wide_err hg b, wide_err hh b]
    by_cases b2 : s = t
    · subst b2
      rw [wide_same hg (by omega) (by omega), wide_same hh (by omega) (show s < g.n by omega)]
    have r1 := wide_ok hg (s := s) (t := t) (by omega) (by omega) (by omega) (by omega) b2
    have r2 := wide_ok hh (s := s) (t := t) (by omega) (show s < g.n by omega) (by omega) (show t < g.n by omega) b2
    rcases r1 with ⟨c, w1, ⟨a, a1, a2⟩, w2, w3⟩ | ⟨w1, w2⟩
    · obtain ⟨b, b3, b4, b5⟩ := (down c s t w2).tight b2
      rcases r2 with ⟨d, v1, ⟨a', a3, a4⟩, v2, v3⟩ | ⟨v1, v2⟩
      · have k1 : d ≤ b.c := Classical.byContradiction fun w => v3 b b3 (by omega) b5
        have k2 : c ≤ d := Classical.byContradiction fun w => w3 a' (m1 a' a3) (by omega) (by rw [a4]; exact up d s t v2)
        have : c = d := by omega
        rw [w1, v1, this]
      · exact absurd b5 (v2 b b3)
    · rcases r2 with ⟨d, v1, ⟨a', a3, a4⟩, v2, v3⟩ | ⟨v1, v2⟩
      · exact absurd (up d s t v2) (by rw [← a4]; exact w2 a' (m1 a' a3))
      · rw [w1, v1]
  obtain ⟨c, d, ecd⟩ : ∃ c d, span_Wide_F g s t = some (c, d) := by
    by_cases b : s < 0 ∨ g.n ≤ s ∨ t < 0 ∨ g.n ≤ t
    · exact ⟨_, _, wide_err hg b⟩
    by_cases b2 : s = t
    · subst b2
      exact ⟨_, _, wide_same hg (by omega) (by omega)⟩
    rcases wide_ok hg (s := s) (t := t) (by omega) (by omega) (by omega) (by omega) b2 with ⟨c, w1, _⟩ | ⟨w1, _⟩
    · exact ⟨_, _, w1⟩
    · exact ⟨_, _, w1⟩
  rw [ecd, bind_some']
  dsimp only
  rw [if_neg (by decide), e2, bind_some']
  dsimp only
  rw [same, ecd, bind_some']
  dsimp only
  rw [if_pos rfl, decide_eq_true rfl]
end Go.Proofs.Ytkpdkigkhbkfiaa
