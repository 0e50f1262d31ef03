/- Package weirref: Rest. -/
import Derived.Test.YtgkcmjmofcekmaaPlA
import Derived.Test.YtgkcmjmofcekmaaGref
namespace Go.Proofs.Ytgkcmjmofcekmaa
open Go Go.Proofs.Ytgkcmjmofcekmaa.Sx
set_option linter.unusedVariables false
set_option linter.unusedSimpArgs false
theorem rest_ok {n m : Int} (hm : 0 < m) (hm2 : m ≤ 1000000000) : ∃ r, weirref_Rest_F n m = some r ∧ 0 ≤ r ∧ r < m := by
  unfold weirref_Rest_F
  have h1 := Int.tmod_lt_of_pos n hm
  have h2 : -m < Int.tmod n m := by
    rcases Int.le_total 0 n with h | h
    · have := Int.tmod_nonneg m h; omega
    · have h3 := Int.tmod_lt_of_pos (-n) hm
      rw [Int.neg_tmod] at h3
      omega
  rw [ck_some (by omega)]
  by_cases h : Int.tmod n m < 0
  · rw [if_pos h, ck_some (inI_small (by omega) (by omega))]
    exact ⟨_, rfl, by omega, by omega⟩
  · rw [if_neg h]
    exact ⟨_, rfl, by omega, h1⟩
end Go.Proofs.Ytgkcmjmofcekmaa
