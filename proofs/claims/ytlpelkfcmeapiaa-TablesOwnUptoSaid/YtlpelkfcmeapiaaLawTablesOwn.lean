/- TablesOwn: from the law's function to the statement (lists that are not too long). -/
import Derived.Test.YtlpelkfcmeapiaaRows
import Derived.Test.YtlpelkfcmeapiaaLTablesOwn
import Derived.Test.YtlpelkfcmeapiaaUptoM
namespace Go.Proofs.Ytlpelkfcmeapiaa
open Go Go.ChangeShapes Go.WideShapes Go.ChangeAt Go.RowKit Go.Proofs.Ytlpelkfcmeapiaa.Sx
set_option linter.unusedVariables false
theorem own_ : ownKnob Try.prog.godebug = none := by kernel_rfl
theorem laidOut_ : laidOutB Try.prog = true := by kernel_rfl
set_option maxRecDepth 100000 in
theorem tablesOwn_lifted (os : Os) (started : os.Started) (H : Type) (enc : TypeId × Value → H) (F : Stop.Interp) :
    ReturnsInHanded {} Try.checked os 4 .any ((Rows.OpenSpec.upto Rows.tablesOwnSpec).pre6 enc Try.prog Try.f4 Rows.tablesOwnUptoRow.domain false) (((Rows.OpenSpec.upto Rows.tablesOwnSpec).at F).post enc Try.prog Try.f4 false true false false) := by
  refine returnsInHanded_of_cond (C := Try.checked) (s := Rows.OpenSpec.upto Rows.tablesOwnSpec) (k := Rows.uptoSmall) rfl own_ started (by kernel_rfl) Try.func4
    (OpenSpec.witness (enc := enc) (C := Try.checked) (s := Rows.OpenSpec.upto Rows.tablesOwnSpec) (k := Rows.uptoSmall) rfl false ⟨#[], #[.slice none 0 0, .slice none 0 0, .slice none 0 0, .slice none 0 0], []⟩ 8 (by kernel_rfl) (by kernel_rfl) (by kernel_rfl)
      (x := ([.nil, .nil, .nil, .nil], [], [])) (by kernel_rfl) rfl (by kernel_rfl)) ?_
  intro W base args ds gs before hval0 hW _ hk_ _
  have hval : ∀ (j : Nat) t v, Try.f4.params[j]? = some t → args[j]? = some v → Value.okWide Try.prog W .any base t v := hval0
  have hW1 := hW
  obtain ⟨p, q, hA0, hV, hbe, hfz, hnd⟩ := hW
  have hA : DataW.TrodAll enc Try.prog W 0 (fun _ => true) true Try.f4.params.toList args.toList ds p := hA0
  have hA2 := hA
  rw [Try.params4] at hA hval
  obtain ⟨v0, v1, v2, v3, d0, d1, d2, d3, p0, p1, p2, p3, rfl, rfl, hp, h0, h1, h2, h3⟩ := trodAll_four hA
  have hgs : gs = [] := (trodVars_none hV).1
  obtain ⟨x0, l0, c0, e0⟩ := okWide_slice Try.underlying23 (hval 0 23 v0 rfl rfl)
  subst e0
  obtain ⟨n0, q0⟩ := h0
  obtain ⟨g0, r0, in0⟩ := rd_intLL Try.underlying23 Try.underlying30 (by kernel_rfl) Try.underlying3 (by kernel_rfl) q0
  have zz0 := intLL_bulk Try.underlying23 Try.underlying30 (by kernel_rfl) q0 r0
  have zs0 := bulk_small hk_ (d := d0) (by simp)
  have z0 : g0.length ≤ 1048576 ∧ ∀ k, k < g0.length → (g0.getD k []).length ≤ 1048576 := ⟨Nat.le_trans zz0.1 zs0, fun k hk => Nat.le_trans (zz0.2 k hk) zs0⟩
  obtain ⟨x1, l1, c1, e1⟩ := okWide_slice Try.underlying23 (hval 1 23 v1 rfl rfl)
  subst e1
  obtain ⟨n1, q1⟩ := h1
  obtain ⟨g1, r1, in1⟩ := rd_intLL Try.underlying23 Try.underlying30 (by kernel_rfl) Try.underlying3 (by kernel_rfl) q1
  have zz1 := intLL_bulk Try.underlying23 Try.underlying30 (by kernel_rfl) q1 r1
  have zs1 := bulk_small hk_ (d := d1) (by simp)
  have z1 : g1.length ≤ 1048576 ∧ ∀ k, k < g1.length → (g1.getD k []).length ≤ 1048576 := ⟨Nat.le_trans zz1.1 zs1, fun k hk => Nat.le_trans (zz1.2 k hk) zs1⟩
  obtain ⟨x2, l2, c2, e2⟩ := okWide_slice Try.underlying30 (hval 2 30 v2 rfl rfl)
  subst e2
  obtain ⟨n2, q2⟩ := h2
  obtain ⟨g2, r2, in2⟩ := rd_intL Try.underlying30 Try.underlying3 (by kernel_rfl) q2
  have z2 : g2.length ≤ 1048576 := Nat.le_trans (ints_bulk Try.underlying30 q2 r2) (bulk_small hk_ (by simp))
  obtain ⟨x3, l3, c3, e3⟩ := okWide_slice Try.underlying30 (hval 3 30 v3 rfl rfl)
  subst e3
  obtain ⟨n3, q3⟩ := h3
  obtain ⟨g3, r3, in3⟩ := rd_intL Try.underlying30 Try.underlying3 (by kernel_rfl) q3
  have z3 : g3.length ≤ 1048576 := Nat.le_trans (ints_bulk Try.underlying30 q3 r3) (bulk_small hk_ (by simp))
  have hT : weirkeep_TablesOwn_F g0 g1 g2 g3 = some true := by first | exact TablesOwn_true g0 g1 g2 g3 z0 z1 z2 z3 | exact TablesOwn_true g0 g1 g2 g3 in0 in1 in2 in3
  refine (weirkeep_TablesOwn_spec g0 g1 g2 g3 hT (Old W) W [_, _, _, _] ⟨_, _, rfl, r0, ⟨_, _, rfl, r1, ⟨_, _, rfl, r2, ⟨_, _, rfl, r3, rfl⟩⟩⟩⟩ hok_nil (fun _ h => h)).mono ?_
  rintro e W1 ⟨v, d, H1, N1, rfl, ⟨rfl, rfl⟩, hr, _, _, _, hsame⟩
  have hv : v = .bool true := hr
  subst hv
  exact ⟨_, rfl, law_post laidOut_ hW1 hA2 (fun x hx => by rw [hbe]; exact List.mem_append_left _ hx) hsame.below (by kernel_rfl) rfl Try.underlying4 rfl (by subst hgs; rfl)⟩

theorem tablesOwnUpto_holds : Rows.TablesOwnUptoSaid :=
  OpenClaim.holds_of_cond 4 Try.f4 rfl rfl rfl rfl rfl rfl rfl ⟨rfl, rfl, rfl, rfl, rfl⟩ rfl rfl rfl rfl rfl (by kernel_rfl) Try.func4 (by kernel_rfl)
    (of_decide_eq_true (by kernel_rfl)) (by unfold Func.isWrapper; rw [if_neg (by decide +kernel)]; exact ⟨rfl, rfl⟩)
    (fun os started H enc _ F => tablesOwn_lifted os started H enc F)
end Go.Proofs.Ytlpelkfcmeapiaa
