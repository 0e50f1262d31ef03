/- TopStore: from the law's function to the statement. -/
import Derived.Test.YtfnldmbomampiaaRows
import Derived.Test.YtfnldmbomampiaaLTopStore
import Derived.Test.YtfnldmbomampiaaSizedD
namespace Go.Proofs.Ytfnldmbomampiaa
open Go Go.ChangeShapes Go.WideShapes Go.ChangeAt Go.RowKit Go.Proofs.Ytfnldmbomampiaa.Sx
set_option linter.unusedVariables false
theorem own_ : ownKnob Try.prog.godebug = none := by kernel_rfl
theorem laidOut_ : laidOutB Try.prog = true := by kernel_rfl
set_option maxRecDepth 100000 in
theorem topStore_lifted (os : Os) (started : os.Started) (H : Type) (enc : TypeId × Value → H) :
    ReturnsInHanded {} Try.checked os 8 .any (Rows.topStoreSpec.pre6 enc Try.prog Try.f8 Rows.topStoreRow.domain false) (Rows.topStoreSpec.post enc Try.prog Try.f8 false true false false) := by
  refine returnsInHanded_of_change (C := Try.checked) own_ started (by kernel_rfl) Try.func8
    (ChangeSpec.witness6 (enc := enc) (C := Try.checked) false ⟨#[], #[.slice none 0 0, .agg #[.int .i64 0, .int .i64 0, .int .i64 0, .int .i64 0, .string ByteArray.empty]], []⟩ 8 (by kernel_rfl) (by kernel_rfl) (by kernel_rfl) (by kernel_rfl)) ?_
  intro W base args ds gs before hval0 hW hcnd _
  have hval : ∀ (j : Nat) t v, Try.f8.params[j]? = some t → args[j]? = some v → Value.okWide Try.prog W .any base t v := hval0
  have hW1 := hW
  obtain ⟨p, q, hA0, hV, hbe, hfz, hnd⟩ := hW
  have hA : DataW.TrodAll enc Try.prog W 0 (fun _ => true) true Try.f8.params.toList args.toList ds p := hA0
  have hA2 := hA
  rw [Try.params8] at hA hval
  obtain ⟨v0, v1, d0, d1, p0, p1, rfl, rfl, hp, h0, h1⟩ := trodAll_two hA
  have hgs : gs = [] := (trodVars_none hV).1
  obtain ⟨x0, l0, c0, e0⟩ := okWide_slice Try.underlying22 (hval 0 22 v0 rfl rfl)
  subst e0
  obtain ⟨n0, q0⟩ := h0
  obtain ⟨g0, r0, in0⟩ := rd_deedL Try.underlying22 Try.underlying31 (by kernel_rfl) (by kernel_rfl) Try.underlying3 Try.underlying9 rfl rfl rfl rfl rfl q0
  obtain ⟨g1, r1, in1⟩ := rd_deed Try.underlying31 (by kernel_rfl) (by kernel_rfl) Try.underlying3 Try.underlying9 rfl rfl rfl rfl rfl (hval 1 31 v1 rfl rfl) h1
  have hT : weirtop_TopStore_F g0 g1 = some true := by first | exact TopStore_true g0 g1  | exact TopStore_true g0 g1 in0 in1
  refine (weirtop_TopStore_spec g0 g1 hT (Old W) W [_, _] ⟨_, _, rfl, r0, ⟨_, _, rfl, r1, rfl⟩⟩ hok_nil (fun _ h => h)).mono ?_
  rintro e W1 ⟨v, d, H1, N1, rfl, ⟨rfl, rfl⟩, hr, _, _, _, hsame⟩
  have hv : v = .bool true := hr
  subst hv
  exact ⟨_, rfl, law_post laidOut_ hW1 hA2 (fun x hx => by rw [hbe]; exact List.mem_append_left _ hx) hsame.below (by kernel_rfl) rfl Try.underlying4 rfl (by subst hgs; rfl)⟩

theorem topStore_holds : Rows.TopStoreSaid :=
  OpenClaim.holds_of_wide 8 Try.f8 rfl rfl rfl rfl rfl rfl rfl ⟨rfl, rfl, rfl, rfl, rfl⟩ rfl rfl rfl rfl rfl (by kernel_rfl) Try.func8 (by kernel_rfl)
    (of_decide_eq_true (by kernel_rfl)) (by unfold Func.isWrapper; rw [if_neg (by decide +kernel)]; exact ⟨rfl, rfl⟩)
    (fun os started H enc _ => topStore_lifted os started H enc)
end Go.Proofs.Ytfnldmbomampiaa
