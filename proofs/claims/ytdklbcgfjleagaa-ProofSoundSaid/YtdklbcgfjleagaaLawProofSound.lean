/- ProofSound holds of the program. -/
import Derived.Test.YtdklbcgfjleagaaRows
import Derived.Test.YtdklbcgfjleagaaLProofSound
import Derived.Test.YtdklbcgfjleagaaSized
namespace Go.Proofs.Ytdklbcgfjleagaa
open Go Go.ChangeShapes Go.WideShapes Go.ChangeAt Go.RowKit Go.Proofs.Ytdklbcgfjleagaa.Sx
set_option linter.unusedVariables false
theorem own_ : ownKnob Try.prog.godebug = none := by kernel_rfl
theorem laidOut_ : laidOutB Try.prog = true := by kernel_rfl
set_option maxRecDepth 100000 in
theorem proofSound_lifted (os : Os) (started : os.Started) (H : Type) (enc : TypeId × Value → H) :
    ReturnsInHanded {} Try.checked os 11 .any (Rows.proofSoundSpec.pre6 enc Try.prog Try.f11 Rows.proofSoundRow.domain false) (Rows.proofSoundSpec.post enc Try.prog Try.f11 false true false false) := by
  refine returnsInHanded_of_change (C := Try.checked) own_ started (by kernel_rfl) Try.func11
    (ChangeSpec.witness6 (enc := enc) (C := Try.checked) false ⟨#[], #[.agg #[.int .i64 0, .int .i64 0, .int .i64 0, .slice none 0 0], .agg #[.int .i64 0, .slice none 0 0, .int .u16 0], .slice none 0 0, .int .u16 0], []⟩ 8 (by kernel_rfl) (by kernel_rfl) (by kernel_rfl) (by kernel_rfl)) ?_
  intro W base args ds gs before hval0 hW hcnd _
  have hval : ∀ (j : Nat) t v, Try.f11.params[j]? = some t → args[j]? = some v → Value.okWide Try.prog W .any base t v := hval0
  have hW1 := hW
  obtain ⟨p, q, hA0, hV, hbe, hfz, hnd⟩ := hW
  have hA : DataW.TrodAll enc Try.prog W 0 (fun _ => true) true Try.f11.params.toList args.toList ds p := hA0
  have hA2 := hA
  rw [Try.params11] at hA hval
  obtain ⟨v0, v1, v2, v3, d0, d1, d2, d3, p0, p1, p2, p3, rfl, rfl, hp, h0, h1, h2, h3⟩ := trodAll_four hA
  have hgs : gs = [] := (trodVars_none hV).1
  obtain ⟨g0, r0, in0⟩ := rd_net Try.underlying24 (by kernel_rfl) (by kernel_rfl) rfl rfl rfl rfl Try.underlying22 Try.underlying38 (by kernel_rfl) (by kernel_rfl) Try.underlying3 rfl rfl rfl (hval 0 24 v0 rfl rfl) h0
  obtain ⟨g1, r1, in1⟩ := rd_proof Try.underlying66 (by kernel_rfl) (by kernel_rfl) rfl rfl rfl Try.underlying32 Try.underlying3 (by kernel_rfl) Try.underlying26 (hval 1 66 v1 rfl rfl) h1
  obtain ⟨x2, l2, c2, e2⟩ := okWide_slice Try.underlying32 (hval 2 32 v2 rfl rfl)
  subst e2
  obtain ⟨n2, q2⟩ := h2
  obtain ⟨g2, r2, in2⟩ := rd_intL Try.underlying32 Try.underlying3 (by kernel_rfl) q2
  obtain ⟨g3, rfl, _, _, w3⟩ := open_int Try.underlying26 (hval 3 26 v3 rfl rfl) h3
  have r3 : Rd (Old W) W (.v (.int .u16 g3)) (.int .u16 g3) := rfl
  have in3 := w3
  have hT : weirkeep_ProofSound_F g0 g1 g2 g3 = some true := by first | exact ProofSound_true g0 g1 g2 g3  | exact ProofSound_true g0 g1 g2 g3 in0 in1 in2 in3
  refine (weirkeep_ProofSound_spec g0 g1 g2 g3 hT (Old W) W [_, _, _, _] ⟨_, _, rfl, r0, ⟨_, _, rfl, r1, ⟨_, _, rfl, r2, ⟨_, _, rfl, r3, rfl⟩⟩⟩⟩ hok_nil (fun _ h => h)).mono ?_
  rintro e W1 ⟨v, d, H1, N1, rfl, ⟨rfl, rfl⟩, hr, _, _, _, hsame⟩
  have hv : v = .bool true := hr
  subst hv
  exact ⟨_, rfl, law_post laidOut_ hW1 hA2 (fun x hx => by rw [hbe]; exact List.mem_append_left _ hx) hsame.below (by kernel_rfl) rfl Try.underlying4 rfl (by subst hgs; rfl)⟩

theorem proofSound_holds : Rows.ProofSoundSaid :=
  OpenClaim.holds_of_wide 11 Try.f11 rfl rfl rfl rfl rfl rfl rfl ⟨rfl, rfl, rfl, rfl, rfl⟩ rfl rfl rfl rfl rfl (by kernel_rfl) Try.func11 (by kernel_rfl)
    (of_decide_eq_true (by kernel_rfl)) (by unfold Func.isWrapper; rw [if_neg (by decide +kernel)]; exact ⟨rfl, rfl⟩)
    (fun os started H enc _ => proofSound_lifted os started H enc)
end Go.Proofs.Ytdklbcgfjleagaa
