/- MostTurned: the law's function answers true. -/
import Derived.Test.YtclaacfebgigiaaPcut
import Derived.Test.YtclaacfebgigiaaPturn
import Derived.Test.YtclaacfebgigiaaKMostTurned
namespace Go.Proofs.Ytclaacfebgigiaa
open Go Go.Proofs.Ytclaacfebgigiaa.Sx
set_option linter.unusedVariables false
set_option linter.unusedSimpArgs false
theorem of_some (n : Net) : ∃ f v e, most_Of_F n = some (f, v, e) := by
  by_cases hn : OkNet n
  · obtain ⟨g, v, e, _⟩ := of_ok hn
    exact ⟨_, _, _, e⟩
  · obtain ⟨e, _, _, h⟩ := of_bad hn
    exact ⟨_, _, _, h⟩
theorem MostTurned_true (n : Net) : weirkeep_MostTurned_F n = some true := by
  unfold weirkeep_MostTurned_F
  rw [mosts_eq, bind_some', if_neg (by decide)]
  by_cases hn : OkNet n
  · obtain ⟨g, v, e, _, _, hM⟩ := of_max hn
    obtain ⟨g', w, e', _, _, hM'⟩ := of_max (ok_turn hn)
    rw [e, bind_some']
    dsimp only
    rw [turned_ok hn, bind_some', e', bind_some']
    dsimp only
    rw [if_neg (by decide), if_pos rfl]
    exact congrArg some (decide_eq_true ((max_turn hM).uniq hM'))
  · obtain ⟨e, he, hc, e1⟩ := of_bad hn
    obtain ⟨m, hm⟩ := turned_some n
    obtain ⟨f2, v2, x2, h2⟩ := of_some m
    rw [e1, bind_some']
    dsimp only
    rw [hm, bind_some', h2, bind_some']
    dsimp only
    rw [if_pos he]
end Go.Proofs.Ytclaacfebgigiaa
