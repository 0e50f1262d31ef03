/- the law LevelFew answers true: for every net it takes fewer rounds than nodes, and where each arc takes one no more than two for each whole root of how many arcs there are, and two -/
import Derived.Test.YtdpkdicciclobaaRows
import Derived.Test.YtdpkdicciclobaaLLevelFew
import Derived.Test.YtdpkdicciclobaaSized
namespace Go.Proofs.Ytdpkdicciclobaa
open Go Go.ChangeShapes Go.WideShapes Go.ChangeAt Go.RowKit Go.Proofs.Ytdpkdicciclobaa.Sx
set_option linter.unusedVariables false
theorem own_ : ownKnob Try.prog.godebug = none := by kernel_rfl
theorem laidOut_ : laidOutB Try.prog = true := by kernel_rfl
set_option maxRecDepth 100000 in
theorem levelFew_lifted (os : Os) (started : os.Started) (H : Type) (enc : TypeId × Value → H) :
    ReturnsInHanded {} Try.checked os 8 .any (Rows.levelFewSpec.pre6 enc Try.prog Try.f8 Rows.levelFewRow.domain false) (Rows.levelFewSpec.post enc Try.prog Try.f8 false true false false) := by
  refine returnsInHanded_of_change_sized (C := Try.checked) own_ started (by kernel_rfl) Try.func8
    (ChangeSpec.witness6 (enc := enc) (C := Try.checked) false ⟨#[], #[.agg #[.int .i64 0, .int .i64 0, .int .i64 0, .slice none 0 0]], []⟩ 8 (by kernel_rfl) (by kernel_rfl) (by kernel_rfl) (by kernel_rfl)) ?_
  intro W base args ds gs before hval0 hW hcnd hz _
  have hval : ∀ (j : Nat) t v, Try.f8.params[j]? = some t → args[j]? = some v → Value.okWide Try.prog W .any base t v := hval0
  have hW1 := hW
  obtain ⟨p, q, hA0, hV, hbe, hfz, hnd⟩ := hW
  have hA : DataW.TrodAll enc Try.prog W 0 (fun _ => true) true Try.f8.params.toList args.toList ds p := hA0
  have hA2 := hA
  rw [Try.params8] at hA hval
  obtain ⟨v0, d0, rfl, rfl, h0⟩ := trodAll_one hA
  have hgs : gs = [] := (trodVars_none hV).1
  obtain ⟨g0, r0, in0⟩ := rd_net Try.underlying64 (by kernel_rfl) (by kernel_rfl) rfl rfl rfl rfl Try.underlying31 Try.underlying39 (by kernel_rfl) (by kernel_rfl) Try.underlying3 rfl rfl rfl (hval 0 64 v0 rfl rfl) h0
  have s0 := net_len Try.underlying64 (by kernel_rfl) (by kernel_rfl) rfl Try.underlying31 (hval 0 64 v0 rfl rfl) h0 (sized_at hz (j := 0) (t := 64) (d := d0) (by rw [Try.params8]; rfl) rfl) r0
  have z0 : g0.as.length + 1 ≤ 5864062014805 := by
    have e : Try.prog.bytesOf 39 = 24 := by kernel_rfl
    rw [e] at s0
    unfold reachBytes at s0
    omega
  have hT : weirkeep_LevelFew_F g0 = some true := by first | exact LevelFew_true g0 z0 | exact LevelFew_true g0 in0
  refine (weirkeep_LevelFew_spec g0 hT (Old W) W [_] ⟨_, _, rfl, r0, rfl⟩ hok_nil (fun _ h => h)).mono ?_
  rintro e W1 ⟨v, d, H1, N1, rfl, ⟨rfl, rfl⟩, hr, _, _, _, hsame⟩
  have hv : v = .bool true := hr
  subst hv
  exact ⟨_, rfl, law_post laidOut_ hW1 hA2 (fun x hx => by rw [hbe]; exact List.mem_append_left _ hx) hsame.below (by kernel_rfl) rfl Try.underlying4 rfl (by subst hgs; rfl)⟩

theorem levelFew_holds : Rows.LevelFewSaid :=
  OpenClaim.holds_of_wide 8 Try.f8 rfl rfl rfl rfl rfl rfl rfl ⟨rfl, rfl, rfl, rfl, rfl⟩ rfl rfl rfl rfl rfl (by kernel_rfl) Try.func8 (by kernel_rfl)
    (of_decide_eq_true (by kernel_rfl)) (by unfold Func.isWrapper; rw [if_neg (by decide +kernel)]; exact ⟨rfl, rfl⟩)
    (fun os started H enc _ => levelFew_lifted os started H enc)
end Go.Proofs.Ytdpkdicciclobaa
