/- MostCut: the law's function answers true. -/
import Derived.Test.YtclaacfebgigiaaPcut
import Derived.Test.YtclaacfebgigiaaKMostCut
namespace Go.Proofs.Ytclaacfebgigiaa
open Go Go.Proofs.Ytclaacfebgigiaa.Sx
set_option linter.unusedVariables false
set_option linter.unusedSimpArgs false
theorem MostCut_true (n : Net) (side : Int) (f : List Int) : weirkeep_MostCut_F n side f = some true := by
  unfold weirkeep_MostCut_F
  rw [mosts_eq, bind_some', if_neg (by decide)]
  by_cases hn : OkNet n
  · obtain ⟨g, v, e, h1, h2, hM⟩ := of_max hn
    rw [e, bind_some']
    dsimp only
    have left : ∀ r11 r14 r10 r13 : Int, (r11 = 0 → v ≤ r10) → (r14 = 0 → r13 ≤ v) → (if (0 : Int) ≠ 0 then if v = 0 then if r11 ≠ 0 then some (decide (r14 ≠ 0)) else some false else some false else if r11 ≠ 0 then if r14 ≠ 0 then some true else some (decide (r13 ≤ v)) else if v ≤ r10 then if r14 ≠ 0 then some true else some (decide (r13 ≤ v)) else some false) = some true := fun r11 r14 r10 r13 q1 q2 => by
      rw [if_neg (by decide)]
      have fin : (if r14 ≠ 0 then some true else some (decide (r13 ≤ v))) = some true := by
        by_cases q : r14 = 0
        · rw [if_neg (by simpa using q)]; exact congrArg some (decide_eq_true (q2 q))
        · rw [if_pos q]
      by_cases q : r11 = 0
      · rw [if_neg (by simpa using q), if_pos (q1 q)]; exact fin
      · rw [if_pos q]; exact fin
    rcases cap_cases n side with ⟨hS, e2⟩ | ⟨_, x, hx, e2⟩
    · rw [e2, bind_some']
      dsimp only
      by_cases hf : Flow n f
      · rw [value_ok hf, bind_some']
        dsimp only
        exact left _ _ _ _ (fun _ => hM.ge hS.cut) (fun _ => hM.le hf)
      · obtain ⟨y, hy, e3⟩ := value_bad hf
        rw [e3, bind_some']
        dsimp only
        exact left _ _ _ _ (fun _ => hM.ge hS.cut) (fun h => absurd h hy)
    · rw [e2, bind_some']
      dsimp only
      by_cases hf : Flow n f
      · rw [value_ok hf, bind_some']
        dsimp only
        exact left _ _ _ _ (fun h => absurd h hx) (fun _ => hM.le hf)
      · obtain ⟨y, hy, e3⟩ := value_bad hf
        rw [e3, bind_some']
        dsimp only
        exact left _ _ _ _ (fun h => absurd h hx) (fun h => absurd h hy)
  · obtain ⟨e, he, hc, e1⟩ := of_bad hn
    obtain ⟨y, hy, e3⟩ := value_bad (f := f) (n := n) fun h => hn h.net
    rw [e1, bind_some']
    dsimp only
    rcases cap_cases n side with ⟨hS, e2⟩ | ⟨_, x, hx, e2⟩
    · exact absurd hS.1 hn
    rw [e2, bind_some']
    dsimp only
    rw [e3, bind_some']
    dsimp only
    rw [if_pos he, if_pos rfl, if_pos hx]
    exact congrArg some (decide_eq_true hy)
end Go.Proofs.Ytclaacfebgigiaa
