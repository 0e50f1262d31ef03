/- weirkeep.PushHigh answers true for every net and every two lists of operations, of any length that a slice may have. -/
import Derived.Test.YtgkcmjmofcekmaaRows
import Derived.Test.YtgkcmjmofcekmaaLPushHigh
import Derived.Test.YtgkcmjmofcekmaaSized
namespace Go.Proofs.Ytgkcmjmofcekmaa
open Go Go.ChangeShapes Go.WideShapes Go.ChangeAt Go.RowKit Go.Proofs.Ytgkcmjmofcekmaa.Sx
set_option linter.unusedVariables false
theorem own_ : ownKnob Try.prog.godebug = none := by kernel_rfl
theorem laidOut_ : laidOutB Try.prog = true := by kernel_rfl
theorem tab_ : Try.prog.globalNamed "internal/strconv.uint64pow10" = none := by kernel_rfl
set_option maxRecDepth 100000 in
theorem pushHigh_lifted (os : Os) (started : os.Started) (H : Type) (enc : TypeId × Value → H) :
    ReturnsInHanded {} Try.checked os 4 .any (Rows.pushHighSpec.pre6 enc Try.prog Try.f4 Rows.pushHighRow.domain false) (Rows.pushHighSpec.post enc Try.prog Try.f4 false true false false) := by
  refine returnsInHanded_of_change_sized (C := Try.checked) own_ started (by kernel_rfl) Try.func4
    (ChangeSpec.witness6 (enc := enc) (C := Try.checked) false ⟨#[], #[.agg #[.int .i64 0, .int .i64 0, .int .i64 0, .slice none 0 0], .slice none 0 0, .slice none 0 0], []⟩ 8 (by kernel_rfl) (by kernel_rfl) (by kernel_rfl) (by kernel_rfl)) ?_
  intro W base args ds gs before hval0 hW hcnd hz _
  have hval : ∀ (j : Nat) t v, Try.f4.params[j]? = some t → args[j]? = some v → Value.okWide Try.prog W .any base t v := hval0
  have hW1 := hW
  obtain ⟨p, q, hA0, hV, hbe, hfz, hnd⟩ := hW
  have hA : DataW.TrodAll enc Try.prog W 0 (fun _ => true) true Try.f4.params.toList args.toList ds p := hA0
  have hA2 := hA
  rw [Try.params4] at hA hval
  obtain ⟨v0, v1, v2, d0, d1, d2, p0, p1, p2, rfl, rfl, hp, h0, h1, h2⟩ := trodAll_three hA
  have hgs : gs = [] := (trodVars_none hV).1
  obtain ⟨g0, r0, in0⟩ := rd_net Try.underlying24 (by kernel_rfl) (by kernel_rfl) rfl rfl rfl rfl Try.underlying22 Try.underlying46 (by kernel_rfl) (by kernel_rfl) Try.underlying3 rfl rfl rfl (hval 0 24 v0 rfl rfl) h0
  obtain ⟨x1, l1, c1, e1⟩ := okWide_slice Try.underlying26 (hval 1 26 v1 rfl rfl)
  subst e1
  obtain ⟨n1, q1⟩ := h1
  obtain ⟨g1, r1, in1⟩ := rd_intL Try.underlying26 Try.underlying3 (by kernel_rfl) q1
  have s1 := ints_reach Try.underlying26 q1 (sized_at hz (j := 1) (t := 26) (d := d1) (by rw [Try.params4]; rfl) rfl) r1
  have z1 : g1.length ≤ 17592186044416 := by
    have e : Try.prog.bytesOf 3 = 8 := by kernel_rfl
    rw [e] at s1
    unfold reachBytes at s1
    omega
  obtain ⟨x2, l2, c2, e2⟩ := okWide_slice Try.underlying26 (hval 2 26 v2 rfl rfl)
  subst e2
  obtain ⟨n2, q2⟩ := h2
  obtain ⟨g2, r2, in2⟩ := rd_intL Try.underlying26 Try.underlying3 (by kernel_rfl) q2
  have s2 := ints_reach Try.underlying26 q2 (sized_at hz (j := 2) (t := 26) (d := d2) (by rw [Try.params4]; rfl) rfl) r2
  have z2 : g2.length ≤ 17592186044416 := by
    have e : Try.prog.bytesOf 3 = 8 := by kernel_rfl
    rw [e] at s2
    unfold reachBytes at s2
    omega
  have hT : weirkeep_PushHigh_F g0 g1 g2 = some true := by first | exact PushHigh_true g0 g1 g2 z1 z2 | exact PushHigh_true g0 g1 g2 in0 in1 in2
  refine (weirkeep_PushHigh_spec g0 g1 g2 hT (Old W) W [_, _, _] ⟨_, _, rfl, r0, ⟨_, _, rfl, r1, ⟨_, _, rfl, r2, rfl⟩⟩⟩ hok_nil (fun _ h => h) (fun g hg => absurd (tab_.symm.trans hg) (by simp))).mono ?_
  rintro e W1 ⟨v, d, H1, N1, rfl, ⟨rfl, rfl⟩, hr, _, _, _, hsame⟩
  have hv : v = .bool true := hr
  subst hv
  exact ⟨_, rfl, law_post laidOut_ hW1 hA2 (fun x hx => by rw [hbe]; exact List.mem_append_left _ hx) hsame.below (by kernel_rfl) rfl Try.underlying4 rfl (by subst hgs; rfl)⟩

theorem pushHigh_holds : Rows.PushHighSaid :=
  OpenClaim.holds_of_wide 4 Try.f4 rfl rfl rfl rfl rfl rfl rfl ⟨rfl, rfl, rfl, rfl, rfl⟩ rfl rfl rfl rfl rfl (by kernel_rfl) Try.func4 (by kernel_rfl)
    (of_decide_eq_true (by kernel_rfl)) (by unfold Func.isWrapper; rw [if_neg (by decide +kernel)]; exact ⟨rfl, rfl⟩)
    (fun os started H enc _ => pushHigh_lifted os started H enc)
end Go.Proofs.Ytgkcmjmofcekmaa
