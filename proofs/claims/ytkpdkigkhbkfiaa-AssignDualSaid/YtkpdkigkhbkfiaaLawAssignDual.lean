/- No feasible dual solution is smaller and no assignment is greater than the optimum -/
import Derived.Test.YtkpdkigkhbkfiaaRows
import Derived.Test.YtkpdkigkhbkfiaaLAssignDual
import Derived.Test.YtkpdkigkhbkfiaaSizedM
namespace Go.Proofs.Ytkpdkigkhbkfiaa
open Go Go.ChangeShapes Go.WideShapes Go.ChangeAt Go.RowKit Go.Proofs.Ytkpdkigkhbkfiaa.Sx
set_option linter.unusedVariables false
theorem own_ : ownKnob Try.prog.godebug = none := by kernel_rfl
theorem laidOut_ : laidOutB Try.prog = true := by kernel_rfl
set_option maxRecDepth 100000 in
theorem assignDual_lifted (os : Os) (started : os.Started) (H : Type) (enc : TypeId × Value → H) :
    ReturnsInHanded {} Try.checked os 8 .any (Rows.assignDualSpec.pre6 enc Try.prog Try.f8 Rows.assignDualRow.domain false) (Rows.assignDualSpec.post enc Try.prog Try.f8 false true false false) := by
  refine returnsInHanded_of_change_sized (C := Try.checked) own_ started (by kernel_rfl) Try.func8
    (ChangeSpec.witness6 (enc := enc) (C := Try.checked) false ⟨#[], #[.slice none 0 0, .slice none 0 0, .slice none 0 0, .slice none 0 0], []⟩ 8 (by kernel_rfl) (by kernel_rfl) (by kernel_rfl) (by kernel_rfl)) ?_
  intro W base args ds gs before hval0 hW hcnd hz _
  have hval : ∀ (j : Nat) t v, Try.f8.params[j]? = some t → args[j]? = some v → Value.okWide Try.prog W .any base t v := hval0
  have hW1 := hW
  obtain ⟨p, q, hA0, hV, hbe, hfz, hnd⟩ := hW
  have hA : DataW.TrodAll enc Try.prog W 0 (fun _ => true) true Try.f8.params.toList args.toList ds p := hA0
  have hA2 := hA
  rw [Try.params8] at hA hval
  obtain ⟨v0, v1, v2, v3, d0, d1, d2, d3, p0, p1, p2, p3, rfl, rfl, hp, h0, h1, h2, h3⟩ := trodAll_four hA
  have hgs : gs = [] := (trodVars_none hV).1
  obtain ⟨x0, l0, c0, e0⟩ := okWide_slice Try.underlying49 (hval 0 49 v0 rfl rfl)
  subst e0
  obtain ⟨n0, q0⟩ := h0
  obtain ⟨g0, r0, in0⟩ := rd_intLL Try.underlying49 Try.underlying27 (by kernel_rfl) Try.underlying3 (by kernel_rfl) q0
  obtain ⟨x1, l1, c1, e1⟩ := okWide_slice Try.underlying27 (hval 1 27 v1 rfl rfl)
  subst e1
  obtain ⟨n1, q1⟩ := h1
  obtain ⟨g1, r1, in1⟩ := rd_intL Try.underlying27 Try.underlying3 (by kernel_rfl) q1
  obtain ⟨x2, l2, c2, e2⟩ := okWide_slice Try.underlying27 (hval 2 27 v2 rfl rfl)
  subst e2
  obtain ⟨n2, q2⟩ := h2
  obtain ⟨g2, r2, in2⟩ := rd_intL Try.underlying27 Try.underlying3 (by kernel_rfl) q2
  obtain ⟨x3, l3, c3, e3⟩ := okWide_slice Try.underlying27 (hval 3 27 v3 rfl rfl)
  subst e3
  obtain ⟨n3, q3⟩ := h3
  obtain ⟨g3, r3, in3⟩ := rd_intL Try.underlying27 Try.underlying3 (by kernel_rfl) q3
  have s3 := ints_reach Try.underlying27 q3 (sized_at hz (j := 3) (t := 27) (d := d3) (by rw [Try.params8]; rfl) rfl) r3
  have z3 : g3.length ≤ 17592186044416 := by
    have e : Try.prog.bytesOf 3 = 8 := by kernel_rfl
    rw [e] at s3
    unfold reachBytes at s3
    omega
  have hT : weirkeep_AssignDual_F g0 g1 g2 g3 = some true := by first | exact AssignDual_true g0 g1 g2 g3 z3 | exact AssignDual_true g0 g1 g2 g3 in0 in1 in2 in3
  refine (weirkeep_AssignDual_spec g0 g1 g2 g3 hT (Old W) W [_, _, _, _] ⟨_, _, rfl, r0, ⟨_, _, rfl, r1, ⟨_, _, rfl, r2, ⟨_, _, rfl, r3, rfl⟩⟩⟩⟩ hok_nil (fun _ h => h)).mono ?_
  rintro e W1 ⟨v, d, H1, N1, rfl, ⟨rfl, rfl⟩, hr, _, _, _, hsame⟩
  have hv : v = .bool true := hr
  subst hv
  exact ⟨_, rfl, law_post laidOut_ hW1 hA2 (fun x hx => by rw [hbe]; exact List.mem_append_left _ hx) hsame.below (by kernel_rfl) rfl Try.underlying4 rfl (by subst hgs; rfl)⟩

theorem assignDual_holds : Rows.AssignDualSaid :=
  OpenClaim.holds_of_wide 8 Try.f8 rfl rfl rfl rfl rfl rfl rfl ⟨rfl, rfl, rfl, rfl, rfl⟩ rfl rfl rfl rfl rfl (by kernel_rfl) Try.func8 (by kernel_rfl)
    (of_decide_eq_true (by kernel_rfl)) (by unfold Func.isWrapper; rw [if_neg (by decide +kernel)]; exact ⟨rfl, rfl⟩)
    (fun os started H enc _ => assignDual_lifted os started H enc)
end Go.Proofs.Ytkpdkigkhbkfiaa
