/- CutLattice holds of the program. -/
import Derived.Test.YtclaacfebgigiaaRows
import Derived.Test.YtclaacfebgigiaaLCutLattice
import Derived.Test.YtclaacfebgigiaaSized
namespace Go.Proofs.Ytclaacfebgigiaa
open Go Go.ChangeShapes Go.WideShapes Go.ChangeAt Go.RowKit Go.Proofs.Ytclaacfebgigiaa.Sx
set_option linter.unusedVariables false
theorem own_ : ownKnob Try.prog.godebug = none := by kernel_rfl
theorem laidOut_ : laidOutB Try.prog = true := by kernel_rfl
set_option maxRecDepth 100000 in
theorem cutLattice_lifted (os : Os) (started : os.Started) (H : Type) (enc : TypeId × Value → H) :
    ReturnsInHanded {} Try.checked os 14 .any (Rows.cutLatticeSpec.pre6 enc Try.prog Try.f14 Rows.cutLatticeRow.domain false) (Rows.cutLatticeSpec.post enc Try.prog Try.f14 false true false false) := by
  refine returnsInHanded_of_change (C := Try.checked) own_ started (by kernel_rfl) Try.func14
    (ChangeSpec.witness6 (enc := enc) (C := Try.checked) false ⟨#[], #[.agg #[.int .i64 0, .int .i64 0, .int .i64 0, .slice none 0 0], .int .u16 0, .int .u16 0], []⟩ 8 (by kernel_rfl) (by kernel_rfl) (by kernel_rfl) (by kernel_rfl)) ?_
  intro W base args ds gs before hval0 hW hcnd _
  have hval : ∀ (j : Nat) t v, Try.f14.params[j]? = some t → args[j]? = some v → Value.okWide Try.prog W .any base t v := hval0
  have hW1 := hW
  obtain ⟨p, q, hA0, hV, hbe, hfz, hnd⟩ := hW
  have hA : DataW.TrodAll enc Try.prog W 0 (fun _ => true) true Try.f14.params.toList args.toList ds p := hA0
  have hA2 := hA
  rw [Try.params14] at hA hval
  obtain ⟨v0, v1, v2, d0, d1, d2, p0, p1, p2, rfl, rfl, hp, h0, h1, h2⟩ := trodAll_three hA
  have hgs : gs = [] := (trodVars_none hV).1
  obtain ⟨g0, r0, in0⟩ := rd_net Try.underlying24 (by kernel_rfl) (by kernel_rfl) rfl rfl rfl rfl Try.underlying22 Try.underlying32 (by kernel_rfl) (by kernel_rfl) Try.underlying3 rfl rfl rfl (hval 0 24 v0 rfl rfl) h0
  obtain ⟨g1, rfl, _, _, w1⟩ := open_int Try.underlying26 (hval 1 26 v1 rfl rfl) h1
  have r1 : Rd (Old W) W (.v (.int .u16 g1)) (.int .u16 g1) := rfl
  have in1 := w1
  obtain ⟨g2, rfl, _, _, w2⟩ := open_int Try.underlying26 (hval 2 26 v2 rfl rfl) h2
  have r2 : Rd (Old W) W (.v (.int .u16 g2)) (.int .u16 g2) := rfl
  have in2 := w2
  have hT : weirkeep_CutLattice_F g0 g1 g2 = some true := by first | exact CutLattice_true g0 g1 g2  | exact CutLattice_true g0 g1 g2 in0 in1 in2
  refine (weirkeep_CutLattice_spec g0 g1 g2 hT (Old W) W [_, _, _] ⟨_, _, rfl, r0, ⟨_, _, rfl, r1, ⟨_, _, rfl, r2, rfl⟩⟩⟩ hok_nil (fun _ h => h)).mono ?_
  rintro e W1 ⟨v, d, H1, N1, rfl, ⟨rfl, rfl⟩, hr, _, _, _, hsame⟩
  have hv : v = .bool true := hr
  subst hv
  exact ⟨_, rfl, law_post laidOut_ hW1 hA2 (fun x hx => by rw [hbe]; exact List.mem_append_left _ hx) hsame.below (by kernel_rfl) rfl Try.underlying4 rfl (by subst hgs; rfl)⟩

theorem cutLattice_holds : Rows.CutLatticeSaid :=
  OpenClaim.holds_of_wide 14 Try.f14 rfl rfl rfl rfl rfl rfl rfl ⟨rfl, rfl, rfl, rfl, rfl⟩ rfl rfl rfl rfl rfl (by kernel_rfl) Try.func14 (by kernel_rfl)
    (of_decide_eq_true (by kernel_rfl)) (by unfold Func.isWrapper; rw [if_neg (by decide +kernel)]; exact ⟨rfl, rfl⟩)
    (fun os started H enc _ => cutLattice_lifted os started H enc)
end Go.Proofs.Ytclaacfebgigiaa
