/- the law LeastNodes answers true for every graph and every set: what parts a graph at all is no more than what leads to any set of nodes, and 0 just where the arcs that take something do not join all nodes -/
import Derived.Test.YtdpkdicciclobaaRows
import Derived.Test.YtdpkdicciclobaaLLeastNodes
import Derived.Test.YtdpkdicciclobaaFrame
namespace Go.Proofs.Ytdpkdicciclobaa
open Go Go.ChangeShapes Go.WideShapes Go.ChangeAt Go.RowKit Go.Proofs.Ytdpkdicciclobaa.Sx
set_option linter.unusedVariables false
theorem own_ : ownKnob Try.prog.godebug = none := by kernel_rfl
theorem laidOut_ : laidOutB Try.prog = true := by kernel_rfl
set_option maxRecDepth 100000 in
theorem leastNodes_lifted (os : Os) (started : os.Started) (H : Type) (enc : TypeId × Value → H) :
    ReturnsInHanded {} Try.checked os 11 .any (Rows.leastNodesSpec.pre6 enc Try.prog Try.f11 Rows.leastNodesRow.domain false) (Rows.leastNodesSpec.post enc Try.prog Try.f11 false true false false) := by
  refine returnsInHanded_of_change (C := Try.checked) own_ started (by kernel_rfl) Try.func11
    (ChangeSpec.witness6 (enc := enc) (C := Try.checked) false ⟨#[], #[.agg #[.int .i64 0, .slice none 0 0], .int .u16 0], []⟩ 8 (by kernel_rfl) (by kernel_rfl) (by kernel_rfl) (by kernel_rfl)) ?_
  intro W base args ds gs before hval0 hW hcnd _
  have hval : ∀ (j : Nat) t v, Try.f11.params[j]? = some t → args[j]? = some v → Value.okWide Try.prog W .any base t v := hval0
  have hW1 := hW
  obtain ⟨p, q, hA0, hV, hbe, hfz, hnd⟩ := hW
  have hA : DataW.TrodAll enc Try.prog W 0 (fun _ => true) true Try.f11.params.toList args.toList ds p := hA0
  have hA2 := hA
  rw [Try.params11] at hA hval
  obtain ⟨v0, v1, d0, d1, p0, p1, rfl, rfl, hp, h0, h1⟩ := trodAll_two hA
  have hgs : gs = [] := (trodVars_none hV).1
  obtain ⟨g0, r0, in0⟩ := rd_graph Try.underlying33 (by kernel_rfl) (by kernel_rfl) rfl rfl Try.underlying31 Try.underlying39 (by kernel_rfl) (by kernel_rfl) Try.underlying3 rfl rfl rfl (hval 0 33 v0 rfl rfl) h0
  obtain ⟨g1, rfl, _, _, w1⟩ := open_int Try.underlying48 (hval 1 48 v1 rfl rfl) h1
  have r1 : Rd (Old W) W (.v (.int .u16 g1)) (.int .u16 g1) := rfl
  have in1 := w1
  have hT : weirkeep_LeastNodes_F g0 g1 = some true := by first | exact LeastNodes_true g0 g1  | exact LeastNodes_true g0 g1 in0 in1
  refine (weirkeep_LeastNodes_spec g0 g1 hT (Old W) W [_, _] ⟨_, _, rfl, r0, ⟨_, _, rfl, r1, rfl⟩⟩ hok_nil (fun _ h => h)).mono ?_
  rintro e W1 ⟨v, d, H1, N1, rfl, ⟨rfl, rfl⟩, hr, _, _, _, hsame⟩
  have hv : v = .bool true := hr
  subst hv
  exact ⟨_, rfl, law_post laidOut_ hW1 hA2 (fun x hx => by rw [hbe]; exact List.mem_append_left _ hx) hsame.below (by kernel_rfl) rfl Try.underlying4 rfl (by subst hgs; rfl)⟩

theorem leastNodes_holds : Rows.LeastNodesSaid :=
  OpenClaim.holds_of_wide 11 Try.f11 rfl rfl rfl rfl rfl rfl rfl ⟨rfl, rfl, rfl, rfl, rfl⟩ rfl rfl rfl rfl rfl (by kernel_rfl) Try.func11 (by kernel_rfl)
    (of_decide_eq_true (by kernel_rfl)) (by unfold Func.isWrapper; rw [if_neg (by decide +kernel)]; exact ⟨rfl, rfl⟩)
    (fun os started H enc _ => leastNodes_lifted os started H enc)
end Go.Proofs.Ytdpkdicciclobaa
