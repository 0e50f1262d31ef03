/- LevelSame: the law's function answers true. -/
import Derived.Test.YtdpkdicciclobaaPdinic
import Derived.Test.YtdpkdicciclobaaKLevelSame
namespace Go.Proofs.Ytdpkdicciclobaa
open Go Go.Proofs.Ytdpkdicciclobaa.Sx
set_option linter.unusedVariables false
set_option linter.unusedSimpArgs false
def LevelSame_testB : Bool := match weirkeep_weir_F with
  | none => false
  | some w => match level_Of_F w with
    | none => false
    | some (f, v, r, e) => decide (e = 0) && decide (v = 5) && decide (flow_Check_F w f = some 0)
theorem LevelSame_test : ∃ w f v r e, weirkeep_weir_F = some w ∧ level_Of_F w = some (f, v, r, e) ∧ e = 0 ∧ v = 5 ∧ flow_Check_F w f = some 0 := by
  have h : LevelSame_testB = true := by kernel_rfl
  unfold LevelSame_testB at h
  split at h
  · cases h
  · rename_i w hw
    split at h
    · cases h
    · rename_i f v r e he
      simp only [Bool.and_eq_true, decide_eq_true_eq, and_assoc] at h
      exact ⟨w, f, v, r, e, hw, he, h⟩
theorem LevelSame_true (n : Net) : weirkeep_LevelSame_F n = some true := by
  obtain ⟨w, f, v, r, e, h1, h2, rfl, rfl, h3⟩ := LevelSame_test
  unfold weirkeep_LevelSame_F
  rw [h1, bind_some', h2, bind_some']
  dsimp only
  rw [if_neg (by decide), if_neg (by decide), bind_some', h3, bind_some', if_neg (by decide)]
  by_cases hn : OkNet n
  · obtain ⟨g, v, r, e, hD⟩ := level_ok hn
    rw [e, bind_some']
    dsimp only
    obtain ⟨g2, v2, e2, hf, hv, S, hS, hT⟩ := more_ok hD.flow
    rw [e2, bind_some']
    dsimp only
    rw [if_neg (by decide), if_pos rfl]
    obtain ⟨S', hS', hT'⟩ := hD.cut
    have a : MaxV n v := ⟨⟨g, hD.flow, hD.val⟩, S', hS', by rw [← hD.val]; exact (hD.flow.eq_cut hS' hT').symm⟩
    have b : MaxV n v2 := ⟨⟨g2, hf, hv⟩, S, hS, by rw [← hv]; exact (hf.eq_cut hS hT).symm⟩
    exact congrArg some (decide_eq_true (a.uniq b))
  · obtain ⟨e, he, _, e1⟩ := level_bad hn
    rw [e1, bind_some']
    dsimp only
    obtain ⟨e2, he2, e3⟩ := more_bad (f := []) (fun z => hn z.net)
    rw [e3, bind_some']
    dsimp only
    rw [if_pos he]
end Go.Proofs.Ytdpkdicciclobaa
