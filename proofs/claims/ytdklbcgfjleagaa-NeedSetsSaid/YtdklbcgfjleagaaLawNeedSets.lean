/- NeedSets holds of the program. -/
import Derived.Test.YtdklbcgfjleagaaRows
import Derived.Test.YtdklbcgfjleagaaLNeedSets
import Derived.Test.YtdklbcgfjleagaaSized
namespace Go.Proofs.Ytdklbcgfjleagaa
open Go Go.ChangeShapes Go.WideShapes Go.ChangeAt Go.RowKit Go.Proofs.Ytdklbcgfjleagaa.Sx
set_option linter.unusedVariables false
theorem own_ : ownKnob Try.prog.godebug = none := by kernel_rfl
theorem laidOut_ : laidOutB Try.prog = true := by kernel_rfl
set_option maxRecDepth 100000 in
theorem needSets_lifted (os : Os) (started : os.Started) (H : Type) (enc : TypeId × Value → H) :
    ReturnsInHanded {} Try.checked os 10 .any (Rows.needSetsSpec.pre6 enc Try.prog Try.f10 Rows.needSetsRow.domain false) (Rows.needSetsSpec.post enc Try.prog Try.f10 false true false false) := by
  refine returnsInHanded_of_change (C := Try.checked) own_ started (by kernel_rfl) Try.func10
    (ChangeSpec.witness6 (enc := enc) (C := Try.checked) false ⟨#[], #[.int .i64 0, .slice none 0 0, .int .u16 0], []⟩ 8 (by kernel_rfl) (by kernel_rfl) (by kernel_rfl) (by kernel_rfl)) ?_
  intro W base args ds gs before hval0 hW hcnd _
  have hval : ∀ (j : Nat) t v, Try.f10.params[j]? = some t → args[j]? = some v → Value.okWide Try.prog W .any base t v := hval0
  have hW1 := hW
  obtain ⟨p, q, hA0, hV, hbe, hfz, hnd⟩ := hW
  have hA : DataW.TrodAll enc Try.prog W 0 (fun _ => true) true Try.f10.params.toList args.toList ds p := hA0
  have hA2 := hA
  rw [Try.params10] at hA hval
  obtain ⟨v0, v1, v2, d0, d1, d2, p0, p1, p2, rfl, rfl, hp, h0, h1, h2⟩ := trodAll_three hA
  have hgs : gs = [] := (trodVars_none hV).1
  obtain ⟨g0, rfl, _, _, w0⟩ := open_int Try.underlying3 (hval 0 3 v0 rfl rfl) h0
  have r0 : Rd (Old W) W (.i g0) (.int .i64 g0) := rfl
  have in0 := inI_of w0
  obtain ⟨x1, l1, c1, e1⟩ := okWide_slice Try.underlying57 (hval 1 57 v1 rfl rfl)
  subst e1
  obtain ⟨n1, q1⟩ := h1
  obtain ⟨g1, r1, in1⟩ := rd_needL Try.underlying57 Try.underlying56 (by kernel_rfl) (by kernel_rfl) Try.underlying3 rfl rfl rfl rfl q1
  obtain ⟨g2, rfl, _, _, w2⟩ := open_int Try.underlying26 (hval 2 26 v2 rfl rfl) h2
  have r2 : Rd (Old W) W (.v (.int .u16 g2)) (.int .u16 g2) := rfl
  have in2 := w2
  have hT : weirkeep_NeedSets_F g0 g1 g2 = some true := by first | exact NeedSets_true g0 g1 g2  | exact NeedSets_true g0 g1 g2 in0 in1 in2
  refine (weirkeep_NeedSets_spec g0 g1 g2 hT (Old W) W [_, _, _] ⟨_, _, rfl, r0, ⟨_, _, rfl, r1, ⟨_, _, rfl, r2, rfl⟩⟩⟩ hok_nil (fun _ h => h)).mono ?_
  rintro e W1 ⟨v, d, H1, N1, rfl, ⟨rfl, rfl⟩, hr, _, _, _, hsame⟩
  have hv : v = .bool true := hr
  subst hv
  exact ⟨_, rfl, law_post laidOut_ hW1 hA2 (fun x hx => by rw [hbe]; exact List.mem_append_left _ hx) hsame.below (by kernel_rfl) rfl Try.underlying4 rfl (by subst hgs; rfl)⟩

theorem needSets_holds : Rows.NeedSetsSaid :=
  OpenClaim.holds_of_wide 10 Try.f10 rfl rfl rfl rfl rfl rfl rfl ⟨rfl, rfl, rfl, rfl, rfl⟩ rfl rfl rfl rfl rfl (by kernel_rfl) Try.func10 (by kernel_rfl)
    (of_decide_eq_true (by kernel_rfl)) (by unfold Func.isWrapper; rw [if_neg (by decide +kernel)]; exact ⟨rfl, rfl⟩)
    (fun os started H enc _ => needSets_lifted os started H enc)
end Go.Proofs.Ytdklbcgfjleagaa
