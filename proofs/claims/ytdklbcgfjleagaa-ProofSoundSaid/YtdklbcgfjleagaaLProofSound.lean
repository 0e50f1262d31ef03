/- ProofSound: the law's function answers true. -/
import Derived.Test.YtdklbcgfjleagaaPproof
import Derived.Test.YtdklbcgfjleagaaKProofSound
namespace Go.Proofs.Ytdklbcgfjleagaa
open Go Go.Proofs.Ytdklbcgfjleagaa.Sx
set_option linter.unusedVariables false
set_option linter.unusedSimpArgs false
theorem proofsS_eq : weirkeep_proofs_F = some true := by kernel_rfl
open Classical in
theorem ProofSound_true (n : Net) (p : Proof) (f : List Int) (side : Int) : weirkeep_ProofSound_F n p f side = some true := by
  unfold weirkeep_ProofSound_F
  rw [proofsS_eq, bind_some', if_neg (by decide)]
  by_cases hn : OkNet n
  · rw [proofCheck_ok hn, bind_some']
    dsimp only
    rw [if_neg (by decide)]
    by_cases hp : Proves n p
    · rw [decide_eq_true hp, if_neg (by decide)]
      have hM := hp.max
      obtain ⟨g, v, e, _, _, hM2⟩ := of_max hn
      have hv := hM2.uniq hM
      subst hv
      have fin : ∀ r13 r16 r12 r15 : Int, (r13 = 0 → r12 ≤ p.value) → (r16 = 0 → p.value ≤ r15) → (if (0 : Int) = 0 then if p.value = p.value then if r13 ≠ 0 then (if r16 ≠ 0 then some true else some (decide (p.value ≤ r15))) else if r12 ≤ p.value then (if r16 ≠ 0 then some true else some (decide (p.value ≤ r15))) else some false else some false else some false) = some true := fun r13 r16 r12 r15 h1 h2 => by
        rw [if_pos rfl, if_pos rfl]
        have last : (if r16 ≠ 0 then some true else some (decide (p.value ≤ r15))) = some true := by
          by_cases q : r16 = 0
          · rw [if_neg (by simpa using q)]; exact congrArg some (decide_eq_true (h2 q))
          · rw [if_pos q]
        by_cases q : r13 = 0
        · rw [if_neg (by simpa using q), if_pos (h1 q)]; exact last
        · rw [if_pos q]; exact last
      by_cases hf : Flow n f
      · rw [value_ok hf, bind_some']
        dsimp only
        rcases cap_cases n side with ⟨hS, e2⟩ | ⟨_, x, hx, e2⟩
        · rw [e2, bind_some']
          dsimp only
          rw [e, bind_some']
          dsimp only
          exact fin _ _ _ _ (fun _ => hM.le hf) (fun _ => hM.ge hS.cut)
        · rw [e2, bind_some']
          dsimp only
          rw [e, bind_some']
          dsimp only
          exact fin _ _ _ _ (fun _ => hM.le hf) (fun h => absurd h hx)
      · obtain ⟨y, hy, e3⟩ := value_bad hf
        rw [e3, bind_some']
        dsimp only
        rcases cap_cases n side with ⟨hS, e2⟩ | ⟨_, x, hx, e2⟩
        · rw [e2, bind_some']
          dsimp only
          rw [e, bind_some']
          dsimp only
          exact fin _ _ _ _ (fun h => absurd h hy) (fun _ => hM.ge hS.cut)
        · rw [e2, bind_some']
          dsimp only
          rw [e, bind_some']
          dsimp only
          exact fin _ _ _ _ (fun h => absurd h hy) (fun h => absurd h hx)
    · rw [decide_eq_false hp, if_pos (by decide), if_pos rfl]
  · obtain ⟨e, he, h⟩ := proofCheck_bad hn p
    rw [h, bind_some']
    dsimp only
    rw [if_pos he, if_neg he]; rfl
end Go.Proofs.Ytdklbcgfjleagaa
