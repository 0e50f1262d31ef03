/- ListsOwn: from the law's function to the statement. -/
import Derived.Test.YtlpelkfcmeapiaaRows
import Derived.Test.YtlpelkfcmeapiaaLListsOwn
import Derived.Test.YtlpelkfcmeapiaaSizedM
namespace Go.Proofs.Ytlpelkfcmeapiaa
open Go Go.ChangeShapes Go.WideShapes Go.ChangeAt Go.RowKit Go.Proofs.Ytlpelkfcmeapiaa.Sx
set_option linter.unusedVariables false
theorem own_ : ownKnob Try.prog.godebug = none := by kernel_rfl
theorem laidOut_ : laidOutB Try.prog = true := by kernel_rfl
set_option maxRecDepth 100000 in
theorem listsOwn_lifted (os : Os) (started : os.Started) (H : Type) (enc : TypeId × Value → H) :
    ReturnsInHanded {} Try.checked os 3 .any (Rows.listsOwnSpec.pre6 enc Try.prog Try.f3 Rows.listsOwnRow.domain false) (Rows.listsOwnSpec.post enc Try.prog Try.f3 false true false false) := by
  refine returnsInHanded_of_change_sized (C := Try.checked) own_ started (by kernel_rfl) Try.func3
    (ChangeSpec.witness6 (enc := enc) (C := Try.checked) false ⟨#[], #[.int .i64 0, .int .i64 0, .slice none 0 0, .slice none 0 0, .slice none 0 0, .agg #[.int .i64 0, .slice none 0 0]], []⟩ 8 (by kernel_rfl) (by kernel_rfl) (by kernel_rfl) (by kernel_rfl)) ?_
  intro W base args ds gs before hval0 hW hcnd hz _
  have hval : ∀ (j : Nat) t v, Try.f3.params[j]? = some t → args[j]? = some v → Value.okWide Try.prog W .any base t v := hval0
  have hW1 := hW
  obtain ⟨p, q, hA0, hV, hbe, hfz, hnd⟩ := hW
  have hA : DataW.TrodAll enc Try.prog W 0 (fun _ => true) true Try.f3.params.toList args.toList ds p := hA0
  have hA2 := hA
  rw [Try.params3] at hA hval
  obtain ⟨v0, v1, v2, v3, v4, v5, d0, d1, d2, d3, d4, d5, p0, p1, p2, p3, p4, p5, rfl, rfl, hp, h0, h1, h2, h3, h4, h5⟩ := trodAll_six hA
  have hgs : gs = [] := (trodVars_none hV).1
  obtain ⟨g0, rfl, _, _, w0⟩ := open_int Try.underlying3 (hval 0 3 v0 rfl rfl) h0
  have r0 : Rd (Old W) W (.i g0) (.int .i64 g0) := rfl
  have in0 := inI_of w0
  obtain ⟨g1, rfl, _, _, w1⟩ := open_int Try.underlying3 (hval 1 3 v1 rfl rfl) h1
  have r1 : Rd (Old W) W (.i g1) (.int .i64 g1) := rfl
  have in1 := inI_of w1
  obtain ⟨x2, l2, c2, e2⟩ := okWide_slice Try.underlying22 (hval 2 22 v2 rfl rfl)
  subst e2
  obtain ⟨n2, q2⟩ := h2
  obtain ⟨g2, r2, in2⟩ := rd_arcL Try.underlying22 Try.underlying29 (by kernel_rfl) (by kernel_rfl) Try.underlying3 rfl rfl rfl q2
  have s2 := arcs_reach Try.underlying22 q2 (sized_at hz (j := 2) (t := 22) (d := d2) (by rw [Try.params3]; rfl) rfl) r2
  have z2 : g2.length + 1 ≤ 5864062014805 := by
    have e : Try.prog.bytesOf 29 = 24 := by kernel_rfl
    rw [e] at s2
    unfold reachBytes at s2
    omega
  obtain ⟨x3, l3, c3, e3⟩ := okWide_slice Try.underlying23 (hval 3 23 v3 rfl rfl)
  subst e3
  obtain ⟨n3, q3⟩ := h3
  obtain ⟨g3, r3, in3⟩ := rd_intLL Try.underlying23 Try.underlying30 (by kernel_rfl) Try.underlying3 (by kernel_rfl) q3
  obtain ⟨x4, l4, c4, e4⟩ := okWide_slice Try.underlying23 (hval 4 23 v4 rfl rfl)
  subst e4
  obtain ⟨n4, q4⟩ := h4
  obtain ⟨g4, r4, in4⟩ := rd_intLL Try.underlying23 Try.underlying30 (by kernel_rfl) Try.underlying3 (by kernel_rfl) q4
  obtain ⟨g5, r5, in5⟩ := rd_graph Try.underlying25 (by kernel_rfl) (by kernel_rfl) rfl rfl Try.underlying22 Try.underlying29 (by kernel_rfl) (by kernel_rfl) Try.underlying3 rfl rfl rfl (hval 5 25 v5 rfl rfl) h5
  have hT : weirkeep_ListsOwn_F g0 g1 g2 g3 g4 g5 = some true := by first | exact ListsOwn_true g0 g1 g2 g3 g4 g5 z2 | exact ListsOwn_true g0 g1 g2 g3 g4 g5 in0 in1 in2 in3 in4 in5
  refine (weirkeep_ListsOwn_spec g0 g1 g2 g3 g4 g5 hT (Old W) W [_, _, _, _, _, _] ⟨_, _, rfl, r0, ⟨_, _, rfl, r1, ⟨_, _, rfl, r2, ⟨_, _, rfl, r3, ⟨_, _, rfl, r4, ⟨_, _, rfl, r5, rfl⟩⟩⟩⟩⟩⟩ hok_nil (fun _ h => h)).mono ?_
  rintro e W1 ⟨v, d, H1, N1, rfl, ⟨rfl, rfl⟩, hr, _, _, _, hsame⟩
  have hv : v = .bool true := hr
  subst hv
  exact ⟨_, rfl, law_post laidOut_ hW1 hA2 (fun x hx => by rw [hbe]; exact List.mem_append_left _ hx) hsame.below (by kernel_rfl) rfl Try.underlying4 rfl (by subst hgs; rfl)⟩

theorem listsOwn_holds : Rows.ListsOwnSaid :=
  OpenClaim.holds_of_wide 3 Try.f3 rfl rfl rfl rfl rfl rfl rfl ⟨rfl, rfl, rfl, rfl, rfl⟩ rfl rfl rfl rfl rfl (by kernel_rfl) Try.func3 (by kernel_rfl)
    (of_decide_eq_true (by kernel_rfl)) (by unfold Func.isWrapper; rw [if_neg (by decide +kernel)]; exact ⟨rfl, rfl⟩)
    (fun os started H enc _ => listsOwn_lifted os started H enc)
end Go.Proofs.Ytlpelkfcmeapiaa
