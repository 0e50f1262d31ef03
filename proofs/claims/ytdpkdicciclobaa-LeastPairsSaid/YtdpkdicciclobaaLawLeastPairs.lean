/- the law LeastPairs answers true for every graph: what parts a graph at all is the least of what parts node 0 from another one -/
import Derived.Test.YtdpkdicciclobaaRows
import Derived.Test.YtdpkdicciclobaaLLeastPairs
import Derived.Test.YtdpkdicciclobaaFrame
namespace Go.Proofs.Ytdpkdicciclobaa
open Go Go.ChangeShapes Go.WideShapes Go.ChangeAt Go.RowKit Go.Proofs.Ytdpkdicciclobaa.Sx
set_option linter.unusedVariables false
theorem own_ : ownKnob Try.prog.godebug = none := by kernel_rfl
theorem laidOut_ : laidOutB Try.prog = true := by kernel_rfl
set_option maxRecDepth 100000 in
theorem leastPairs_lifted (os : Os) (started : os.Started) (H : Type) (enc : TypeId × Value → H) :
    ReturnsInHanded {} Try.checked os 12 .any (Rows.leastPairsSpec.pre6 enc Try.prog Try.f12 Rows.leastPairsRow.domain false) (Rows.leastPairsSpec.post enc Try.prog Try.f12 false true false false) := by
  refine returnsInHanded_of_change (C := Try.checked) own_ started (by kernel_rfl) Try.func12
    (ChangeSpec.witness6 (enc := enc) (C := Try.checked) false ⟨#[], #[.agg #[.int .i64 0, .slice none 0 0]], []⟩ 8 (by kernel_rfl) (by kernel_rfl) (by kernel_rfl) (by kernel_rfl)) ?_
  intro W base args ds gs before hval0 hW hcnd _
  have hval : ∀ (j : Nat) t v, Try.f12.params[j]? = some t → args[j]? = some v → Value.okWide Try.prog W .any base t v := hval0
  have hW1 := hW
  obtain ⟨p, q, hA0, hV, hbe, hfz, hnd⟩ := hW
  have hA : DataW.TrodAll enc Try.prog W 0 (fun _ => true) true Try.f12.params.toList args.toList ds p := hA0
  have hA2 := hA
  rw [Try.params12] at hA hval
  obtain ⟨v0, d0, rfl, rfl, h0⟩ := trodAll_one hA
  have hgs : gs = [] := (trodVars_none hV).1
  obtain ⟨g0, r0, in0⟩ := rd_graph Try.underlying33 (by kernel_rfl) (by kernel_rfl) rfl rfl Try.underlying31 Try.underlying39 (by kernel_rfl) (by kernel_rfl) Try.underlying3 rfl rfl rfl (hval 0 33 v0 rfl rfl) h0
  have hT : weirkeep_LeastPairs_F g0 = some true := by first | exact LeastPairs_true g0  | exact LeastPairs_true g0 in0
  refine (weirkeep_LeastPairs_spec g0 hT (Old W) W [_] ⟨_, _, rfl, r0, rfl⟩ hok_nil (fun _ h => h)).mono ?_
  rintro e W1 ⟨v, d, H1, N1, rfl, ⟨rfl, rfl⟩, hr, _, _, _, hsame⟩
  have hv : v = .bool true := hr
  subst hv
  exact ⟨_, rfl, law_post laidOut_ hW1 hA2 (fun x hx => by rw [hbe]; exact List.mem_append_left _ hx) hsame.below (by kernel_rfl) rfl Try.underlying4 rfl (by subst hgs; rfl)⟩

theorem leastPairs_holds : Rows.LeastPairsSaid :=
  OpenClaim.holds_of_wide 12 Try.f12 rfl rfl rfl rfl rfl rfl rfl ⟨rfl, rfl, rfl, rfl, rfl⟩ rfl rfl rfl rfl rfl (by kernel_rfl) Try.func12 (by kernel_rfl)
    (of_decide_eq_true (by kernel_rfl)) (by unfold Func.isWrapper; rw [if_neg (by decide +kernel)]; exact ⟨rfl, rfl⟩)
    (fun os started H enc _ => leastPairs_lifted os started H enc)
end Go.Proofs.Ytdpkdicciclobaa
