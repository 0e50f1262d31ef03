/- FlowOwn: from the law's function to the statement. -/
import Derived.Test.YtlpelkfcmeapiaaRows
import Derived.Test.YtlpelkfcmeapiaaLFlowOwn
import Derived.Test.YtlpelkfcmeapiaaSized
namespace Go.Proofs.Ytlpelkfcmeapiaa
open Go Go.ChangeShapes Go.WideShapes Go.ChangeAt Go.RowKit Go.Proofs.Ytlpelkfcmeapiaa.Sx
set_option linter.unusedVariables false
theorem own_ : ownKnob Try.prog.godebug = none := by kernel_rfl
theorem laidOut_ : laidOutB Try.prog = true := by kernel_rfl
set_option maxRecDepth 100000 in
theorem flowOwn_lifted (os : Os) (started : os.Started) (H : Type) (enc : TypeId × Value → H) :
    ReturnsInHanded {} Try.checked os 5 .any (Rows.flowOwnSpec.pre6 enc Try.prog Try.f5 Rows.flowOwnRow.domain false) (Rows.flowOwnSpec.post enc Try.prog Try.f5 false true false false) := by
  refine returnsInHanded_of_change_sized (C := Try.checked) own_ started (by kernel_rfl) Try.func5
    (ChangeSpec.witness6 (enc := enc) (C := Try.checked) false ⟨#[], #[.agg #[.int .i64 0, .int .i64 0, .int .i64 0, .slice none 0 0], .slice none 0 0], []⟩ 8 (by kernel_rfl) (by kernel_rfl) (by kernel_rfl) (by kernel_rfl)) ?_
  intro W base args ds gs before hval0 hW hcnd hz _
  have hval : ∀ (j : Nat) t v, Try.f5.params[j]? = some t → args[j]? = some v → Value.okWide Try.prog W .any base t v := hval0
  have hW1 := hW
  obtain ⟨p, q, hA0, hV, hbe, hfz, hnd⟩ := hW
  have hA : DataW.TrodAll enc Try.prog W 0 (fun _ => true) true Try.f5.params.toList args.toList ds p := hA0
  have hA2 := hA
  rw [Try.params5] at hA hval
  obtain ⟨v0, v1, d0, d1, p0, p1, rfl, rfl, hp, h0, h1⟩ := trodAll_two hA
  have hgs : gs = [] := (trodVars_none hV).1
  obtain ⟨g0, r0, in0⟩ := rd_net Try.underlying62 (by kernel_rfl) (by kernel_rfl) rfl rfl rfl rfl Try.underlying22 Try.underlying29 (by kernel_rfl) (by kernel_rfl) Try.underlying3 rfl rfl rfl (hval 0 62 v0 rfl rfl) h0
  have s0 := net_len Try.underlying62 (by kernel_rfl) (by kernel_rfl) rfl Try.underlying22 (hval 0 62 v0 rfl rfl) h0 (sized_at hz (j := 0) (t := 62) (d := d0) (by rw [Try.params5]; rfl) rfl) r0
  have z0 : g0.as.length + 1 ≤ 5864062014805 := by
    have e : Try.prog.bytesOf 29 = 24 := by kernel_rfl
    rw [e] at s0
    unfold reachBytes at s0
    omega
  obtain ⟨x1, l1, c1, e1⟩ := okWide_slice Try.underlying30 (hval 1 30 v1 rfl rfl)
  subst e1
  obtain ⟨n1, q1⟩ := h1
  obtain ⟨g1, r1, in1⟩ := rd_intL Try.underlying30 Try.underlying3 (by kernel_rfl) q1
  have s1 := ints_reach Try.underlying30 q1 (sized_at hz (j := 1) (t := 30) (d := d1) (by rw [Try.params5]; rfl) rfl) r1
  have z1 : g1.length ≤ 17592186044416 := by
    have e : Try.prog.bytesOf 3 = 8 := by kernel_rfl
    rw [e] at s1
    unfold reachBytes at s1
    omega
  have hT : weirkeep_FlowOwn_F g0 g1 = some true := by first | exact FlowOwn_true g0 g1 z0 z1 | exact FlowOwn_true g0 g1 in0 in1
  refine (weirkeep_FlowOwn_spec g0 g1 hT (Old W) W [_, _] ⟨_, _, rfl, r0, ⟨_, _, rfl, r1, rfl⟩⟩ hok_nil (fun _ h => h)).mono ?_
  rintro e W1 ⟨v, d, H1, N1, rfl, ⟨rfl, rfl⟩, hr, _, _, _, hsame⟩
  have hv : v = .bool true := hr
  subst hv
  exact ⟨_, rfl, law_post laidOut_ hW1 hA2 (fun x hx => by rw [hbe]; exact List.mem_append_left _ hx) hsame.below (by kernel_rfl) rfl Try.underlying4 rfl (by subst hgs; rfl)⟩

theorem flowOwn_holds : Rows.FlowOwnSaid :=
  OpenClaim.holds_of_wide 5 Try.f5 rfl rfl rfl rfl rfl rfl rfl ⟨rfl, rfl, rfl, rfl, rfl⟩ rfl rfl rfl rfl rfl (by kernel_rfl) Try.func5 (by kernel_rfl)
    (of_decide_eq_true (by kernel_rfl)) (by unfold Func.isWrapper; rw [if_neg (by decide +kernel)]; exact ⟨rfl, rfl⟩)
    (fun os started H enc _ => flowOwn_lifted os started H enc)
end Go.Proofs.Ytlpelkfcmeapiaa
