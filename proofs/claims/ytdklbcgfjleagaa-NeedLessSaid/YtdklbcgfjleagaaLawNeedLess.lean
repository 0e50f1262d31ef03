/- NeedLess holds of the program. -/
import Derived.Test.YtdklbcgfjleagaaRows
import Derived.Test.YtdklbcgfjleagaaLNeedLess
import Derived.Test.YtdklbcgfjleagaaSized
namespace Go.Proofs.Ytdklbcgfjleagaa
open Go Go.ChangeShapes Go.WideShapes Go.ChangeAt Go.RowKit Go.Proofs.Ytdklbcgfjleagaa.Sx
set_option linter.unusedVariables false
theorem own_ : ownKnob Try.prog.godebug = none := by kernel_rfl
theorem laidOut_ : laidOutB Try.prog = true := by kernel_rfl
set_option maxRecDepth 100000 in
theorem needLess_lifted (os : Os) (started : os.Started) (H : Type) (enc : TypeId × Value → H) :
    ReturnsInHanded {} Try.checked os 9 .any (Rows.needLessSpec.pre6 enc Try.prog Try.f9 Rows.needLessRow.domain false) (Rows.needLessSpec.post enc Try.prog Try.f9 false true false false) := by
  refine returnsInHanded_of_change (C := Try.checked) own_ started (by kernel_rfl) Try.func9
    (ChangeSpec.witness6 (enc := enc) (C := Try.checked) false ⟨#[], #[.int .i64 0, .slice none 0 0, .int .i64 0, .int .i64 0, .int .i64 0], []⟩ 8 (by kernel_rfl) (by kernel_rfl) (by kernel_rfl) (by kernel_rfl)) ?_
  intro W base args ds gs before hval0 hW hcnd _
  have hval : ∀ (j : Nat) t v, Try.f9.params[j]? = some t → args[j]? = some v → Value.okWide Try.prog W .any base t v := hval0
  have hW1 := hW
  obtain ⟨p, q, hA0, hV, hbe, hfz, hnd⟩ := hW
  have hA : DataW.TrodAll enc Try.prog W 0 (fun _ => true) true Try.f9.params.toList args.toList ds p := hA0
  have hA2 := hA
  rw [Try.params9] at hA hval
  obtain ⟨v0, v1, v2, v3, v4, d0, d1, d2, d3, d4, p0, p1, p2, p3, p4, rfl, rfl, hp, h0, h1, h2, h3, h4⟩ := trodAll_five hA
  have hgs : gs = [] := (trodVars_none hV).1
  obtain ⟨g0, rfl, _, _, w0⟩ := open_int Try.underlying3 (hval 0 3 v0 rfl rfl) h0
  have r0 : Rd (Old W) W (.i g0) (.int .i64 g0) := rfl
  have in0 := inI_of w0
  obtain ⟨x1, l1, c1, e1⟩ := okWide_slice Try.underlying57 (hval 1 57 v1 rfl rfl)
  subst e1
  obtain ⟨n1, q1⟩ := h1
  obtain ⟨g1, r1, in1⟩ := rd_needL Try.underlying57 Try.underlying56 (by kernel_rfl) (by kernel_rfl) Try.underlying3 rfl rfl rfl rfl q1
  obtain ⟨g2, rfl, _, _, w2⟩ := open_int Try.underlying3 (hval 2 3 v2 rfl rfl) h2
  have r2 : Rd (Old W) W (.i g2) (.int .i64 g2) := rfl
  have in2 := inI_of w2
  obtain ⟨g3, rfl, _, _, w3⟩ := open_int Try.underlying3 (hval 3 3 v3 rfl rfl) h3
  have r3 : Rd (Old W) W (.i g3) (.int .i64 g3) := rfl
  have in3 := inI_of w3
  obtain ⟨g4, rfl, _, _, w4⟩ := open_int Try.underlying3 (hval 4 3 v4 rfl rfl) h4
  have r4 : Rd (Old W) W (.i g4) (.int .i64 g4) := rfl
  have in4 := inI_of w4
  have hT : weirkeep_NeedLess_F g0 g1 g2 g3 g4 = some true := by first | exact NeedLess_true g0 g1 g2 g3 g4  | exact NeedLess_true g0 g1 g2 g3 g4 in0 in1 in2 in3 in4
  refine (weirkeep_NeedLess_spec g0 g1 g2 g3 g4 hT (Old W) W [_, _, _, _, _] ⟨_, _, rfl, r0, ⟨_, _, rfl, r1, ⟨_, _, rfl, r2, ⟨_, _, rfl, r3, ⟨_, _, rfl, r4, rfl⟩⟩⟩⟩⟩ hok_nil (fun _ h => h)).mono ?_
  rintro e W1 ⟨v, d, H1, N1, rfl, ⟨rfl, rfl⟩, hr, _, _, _, hsame⟩
  have hv : v = .bool true := hr
  subst hv
  exact ⟨_, rfl, law_post laidOut_ hW1 hA2 (fun x hx => by rw [hbe]; exact List.mem_append_left _ hx) hsame.below (by kernel_rfl) rfl Try.underlying4 rfl (by subst hgs; rfl)⟩

theorem needLess_holds : Rows.NeedLessSaid :=
  OpenClaim.holds_of_wide 9 Try.f9 rfl rfl rfl rfl rfl rfl rfl ⟨rfl, rfl, rfl, rfl, rfl⟩ rfl rfl rfl rfl rfl (by kernel_rfl) Try.func9 (by kernel_rfl)
    (of_decide_eq_true (by kernel_rfl)) (by unfold Func.isWrapper; rw [if_neg (by decide +kernel)]; exact ⟨rfl, rfl⟩)
    (fun os started H enc _ => needLess_lifted os started H enc)
end Go.Proofs.Ytdklbcgfjleagaa
