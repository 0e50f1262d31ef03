/- Package proof. -/
import Derived.Test.YtfnldmbomampiaaPspread
import Derived.Test.YtfnldmbomampiaaGproof
namespace Go.Proofs.Ytfnldmbomampiaa
open Go Go.Proofs.Ytfnldmbomampiaa.Sx
set_option linter.unusedVariables false
set_option linter.unusedSimpArgs false
/-- what makes a proof right -/
structure Proves (n : Net) (p : Proof) : Prop where
  flow : Flow n p.flow
  value : netAt n.as p.flow n.s = p.value
  side : Side n p.side
  cap : capS n.as (bit p.side) = p.value
theorem Proves.max {n : Net} {p : Proof} (h : Proves n p) : MaxV n p.value := ⟨⟨_, h.flow, h.value⟩, _, h.side.cut, h.cap⟩
open Classical in
theorem proofCheck_ok {n : Net} (hn : OkNet n) (p : Proof) : proof_Check_F n p = some (decide (Proves n p), 0) := by
  have hc : graph_CheckNet_F n = some 0 := by
    rcases checkNet_cases n with ⟨_, h⟩ | ⟨h, _⟩
    · exact h
    · exact absurd hn h
  unfold proof_Check_F
  rw [hc, bind_some', if_neg (by decide)]
  by_cases hf : Flow n p.flow
  · rw [value_ok hf, bind_some']
    dsimp only
    rw [if_neg (by decide)]
    by_cases hv : netAt n.as p.flow n.s = p.value
    · rw [if_neg (fun h => h hv)]
      rcases cap_cases n p.side with ⟨hS, e⟩ | ⟨hS, e, he, h⟩
      · rw [e, bind_some']
        dsimp only
        rw [if_pos rfl]
        congr 2
        rw [decide_eq_decide]
        exact ⟨fun h => ⟨hf, hv, hS, h.trans hv⟩, fun h => h.cap.trans hv.symm⟩
      · rw [h, bind_some']
        dsimp only
        rw [if_neg he, decide_eq_false fun h => hS h.side]
    · rw [if_pos hv, decide_eq_false fun h => hv h.value]
  · obtain ⟨e, he, h⟩ := value_bad hf
    rw [h, bind_some']
    dsimp only
    rw [if_pos he, decide_eq_false fun h => hf h.flow]
theorem proofCheck_bad {n : Net} (hn : ¬ OkNet n) (p : Proof) : ∃ e, e ≠ 0 ∧ proof_Check_F n p = some (false, e) := by
  rcases checkNet_cases n with ⟨h, _⟩ | ⟨_, e, he, h⟩
  · exact absurd h hn
  · unfold proof_Check_F
    exact ⟨e, he, by rw [h, bind_some', if_pos he]⟩
end Go.Proofs.Ytfnldmbomampiaa
