/- SpanCut: the law's function answers true. -/
import Derived.Test.YtkpdkigkhbkfiaaPspan
import Derived.Test.YtkpdkigkhbkfiaaKSpanCut
namespace Go.Proofs.Ytkpdkigkhbkfiaa
open Go Go.Proofs.Ytkpdkigkhbkfiaa.Sx
set_option linter.unusedVariables false
set_option linter.unusedSimpArgs false
theorem spans_eq : weirkeep_spans_F = some true := by kernel_rfl
theorem SpanCut_true (g : Graph) (set_ : Int) : weirkeep_SpanCut_F g set_ = some true := by
  unfold weirkeep_SpanCut_F
  rw [spans_eq, bind_some', if_neg (by decide)]
  by_cases hc : checkF g (-10000) = 0
  case neg =>
    rw [least_bad hc, bind_some']
    dsimp only
    rw [if_pos hc]; rfl
  have hg := (checkF_ok g _).1 hc
  have hl := hg.len
  obtain ⟨l, s, e, hC⟩ := least_ok hg
  rw [e, bind_some']
  dsimp only
  rw [if_neg (by decide)]
  let sb : Int → Int := fun x => bitsOf .and .u16 (Int.fdiv set_ (2 ^ min x.toNat 16)) 1
  obtain ⟨x, e2, hx⟩ := forN_inv (f := weirkeep_SpanCut_B1 g set_) (fun j x => (x = -1 ∧ ∀ i : Nat, i < j → Even g sb (i : Int)) ∨ (0 ≤ x ∧ x < j ∧ ¬ Even g sb x ∧ ∀ i : Nat, i < j → ¬ Even g sb (i : Int) → keyS g x ≤ keyS g (i : Int))) (n := g.as.length) (k := 0) (s := (-1 : Int))
    (.inl ⟨rfl, fun i hi => absurd hi (by omega)⟩) fun j x _ hj hI => by
      have hj' : j < g.as.length := by omega
      have hA := hg.arc _ (mem_getD (d := El.d) hj')
      unfold weirkeep_SpanCut_B1
      rw [ck_some hA.f0, ck_some hA.t0]
      have key : ∀ i : Nat, keyS g (i : Int) = (g.as.getD i El.d).c * 64 + i := fun i => rfl
      by_cases c : bitsOf .and .u16 (Int.fdiv set_ (2 ^ min (((g.as.getD j El.d).f).toNat) 16)) 1 ≠ bitsOf .and .u16 (Int.fdiv set_ (2 ^ min (((g.as.getD j El.d).t).toNat) 16)) 1
      · have c' : ¬ Even g sb (j : Int) := c
        rw [if_pos c]
        rcases hI with ⟨h1, h2⟩ | ⟨h1, h2, h3, h4⟩
        · rw [if_pos (by omega)]
          refine ⟨_, rfl, .inr ⟨by omega, by omega, c', fun i hi hn => ?_⟩⟩
          by_cases z : i = j
          · rw [z]; exact Int.le_refl _
          · exact absurd (h2 i (by omega)) hn
        · obtain ⟨y, rfl⟩ := Int.eq_ofNat_of_zero_le h1
          rw [if_neg (by omega), ck_some (by omega), Int.toNat_natCast]
          have k1 := key j
          have k2 := key y
          by_cases d : (g.as.getD j El.d).c < (g.as.getD y El.d).c
          · rw [if_pos d]
            refine ⟨_, rfl, .inr ⟨by omega, by omega, c', fun i hi hn => ?_⟩⟩
            by_cases z : i = j
            · rw [z]; exact Int.le_refl _
            · have := h4 i (by omega) hn
              omega
          · rw [if_neg d]
            refine ⟨_, rfl, .inr ⟨by omega, by omega, h3, fun i hi hn => ?_⟩⟩
            by_cases z : i = j
            · rw [z]; omega
            · exact h4 i (by omega) hn
      · rw [if_neg c]
        have c' : Even g sb (j : Int) := Classical.byContradiction fun w => c w
        rcases hI with ⟨h1, h2⟩ | ⟨h1, h2, h3, h4⟩
        · refine ⟨_, rfl, .inl ⟨h1, fun i hi => ?_⟩⟩
          by_cases z : i = j
          · rw [z]; exact c'
          · exact h2 i (by omega)
        · refine ⟨_, rfl, .inr ⟨h1, by omega, h3, fun i hi hn => ?_⟩⟩
          by_cases z : i = j
          · rw [z] at hn; exact absurd c' hn
          · exact h4 i (by omega) hn
  rw [Nat.zero_add] at hx
  rw [e2, bind_some']
  rcases hx with ⟨h1, _⟩ | ⟨h1, h2, h3, h4⟩
  · rw [if_pos (by omega)]
  · rw [if_neg (by omega), contains_eq, bind_some', decide_eq_true]
    refine Classical.byContradiction fun hn => h3 (hC.left x ⟨h1, by omega⟩ hn sb fun i hi hlt => Classical.byContradiction fun w => ?_)
    have hi' := hC.inA i hi
    have i0 := hi'.1
    have i1 := hi'.2
    have := h4 i.toNat (by omega) (by rw [show ((i.toNat : Nat) : Int) = i by omega]; exact w)
    rw [show ((i.toNat : Nat) : Int) = i by omega] at this
    omega
end Go.Proofs.Ytkpdkigkhbkfiaa
