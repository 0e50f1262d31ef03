/- What the functions of sway compute, by walks through their text. -/
import Derived.Test.YtmgldjkgneiejaaTys
import Derived.Test.YtmgldjkgneiejaaDat
import Derived.Test.YtmgldjkgneiejaaSteps
namespace Go.Proofs.Ytmgldjkgneiejaa
open Go Go.Proofs.Ytmgldjkgneiejaa.Sx
set_option linter.unusedVariables false
set_option linter.unusedSimpArgs false
set_option maxRecDepth 100000 in
set_option maxHeartbeats 400000 in
theorem shortWay_spec (g : Graph) (s : Int) (steps : List Int) (_ : GIn g) (hs : InI s) (hs1 : (∀ x, x ∈ steps → InI x) ∧ steps.length ≤ maxLen) : Does Try.prog 5 [graphD g, .i s, intsD steps] [] (fun d H => d = .bo true ∧ H = []) := by
  refine Does.intro Try.func5 rfl Try.ntmps5 rfl fun w0 I0 => ?_
  refine GoC.seq ?_
  refine GoC.region ?_
  refine GoO.effB (ef_boxAg rfl rfl) (fun β1 => ?_)
  refine GoO.pure (ps_assign rfl rfl) ?_
  refine GoO.nil ?_
  refine GoK.code ?_
  refine GoC.seq ?_
  refine GoC.seq ?_
  refine GoC.region ?_
  refine GoO.effC (ef_call rfl (by first | exact (Take.nil _) | exact (Take.cons _ _ _ _ _ (by first | exact Rem.p0 | exact Rem.p1 | exact Rem.p2 | exact Rem.p3 | exact Rem.p4 | exact Rem.p5 | exact Rem.p6 | exact Rem.p7 | exact Rem.p8 | exact Rem.p9 | exact Rem.p10 | exact Rem.p11 | exact Rem.p12 | exact Rem.p13) (Take.nil _)) | exact (Take.cons _ _ _ _ _ (by first | exact Rem.p0 | exact Rem.p1 | exact Rem.p2 | exact Rem.p3 | exact Rem.p4 | exact Rem.p5 | exact Rem.p6 | exact Rem.p7 | exact Rem.p8 | exact Rem.p9 | exact Rem.p10 | exact Rem.p11 | exact Rem.p12 | exact Rem.p13) (Take.cons _ _ _ _ _ (by first | exact Rem.p0 | exact Rem.p1 | exact Rem.p2 | exact Rem.p3 | exact Rem.p4 | exact Rem.p5 | exact Rem.p6 | exact Rem.p7 | exact Rem.p8 | exact Rem.p9 | exact Rem.p10 | exact Rem.p11 | exact Rem.p12 | exact Rem.p13) (Take.nil _))) | exact (Take.cons _ _ _ _ _ (by first | exact Rem.p0 | exact Rem.p1 | exact Rem.p2 | exact Rem.p3 | exact Rem.p4 | exact Rem.p5 | exact Rem.p6 | exact Rem.p7 | exact Rem.p8 | exact Rem.p9 | exact Rem.p10 | exact Rem.p11 | exact Rem.p12 | exact Rem.p13) (Take.cons _ _ _ _ _ (by first | exact Rem.p0 | exact Rem.p1 | exact Rem.p2 | exact Rem.p3 | exact Rem.p4 | exact Rem.p5 | exact Rem.p6 | exact Rem.p7 | exact Rem.p8 | exact Rem.p9 | exact Rem.p10 | exact Rem.p11 | exact Rem.p12 | exact Rem.p13) (Take.cons _ _ _ _ _ (by first | exact Rem.p0 | exact Rem.p1 | exact Rem.p2 | exact Rem.p3 | exact Rem.p4 | exact Rem.p5 | exact Rem.p6 | exact Rem.p7 | exact Rem.p8 | exact Rem.p9 | exact Rem.p10 | exact Rem.p11 | exact Rem.p12 | exact Rem.p13) (Take.nil _)))) | exact (Take.cons _ _ _ _ _ (by first | exact Rem.p0 | exact Rem.p1 | exact Rem.p2 | exact Rem.p3 | exact Rem.p4 | exact Rem.p5 | exact Rem.p6 | exact Rem.p7 | exact Rem.p8 | exact Rem.p9 | exact Rem.p10 | exact Rem.p11 | exact Rem.p12 | exact Rem.p13) (Take.cons _ _ _ _ _ (by first | exact Rem.p0 | exact Rem.p1 | exact Rem.p2 | exact Rem.p3 | exact Rem.p4 | exact Rem.p5 | exact Rem.p6 | exact Rem.p7 | exact Rem.p8 | exact Rem.p9 | exact Rem.p10 | exact Rem.p11 | exact Rem.p12 | exact Rem.p13) (Take.cons _ _ _ _ _ (by first | exact Rem.p0 | exact Rem.p1 | exact Rem.p2 | exact Rem.p3 | exact Rem.p4 | exact Rem.p5 | exact Rem.p6 | exact Rem.p7 | exact Rem.p8 | exact Rem.p9 | exact Rem.p10 | exact Rem.p11 | exact Rem.p12 | exact Rem.p13) (Take.cons _ _ _ _ _ (by first | exact Rem.p0 | exact Rem.p1 | exact Rem.p2 | exact Rem.p3 | exact Rem.p4 | exact Rem.p5 | exact Rem.p6 | exact Rem.p7 | exact Rem.p8 | exact Rem.p9 | exact Rem.p10 | exact Rem.p11 | exact Rem.p12 | exact Rem.p13) (Take.nil _)))))) (by exact LendL.nil) (shorts_spec) rfl) (fun r H hp => ?_)
  obtain ⟨rfl, rfl⟩ := hp
  first | refine GoO.pure (ps_notD rfl rfl) ?_ | refine GoO.pure (ps_not rfl rfl) ?_
  refine GoO.nil ?_
  refine GoK.code ?_
  refine GoC.condF rfl ?_
  refine GoC.skip ?_
  refine GoK.code ?_
  refine GoC.seq ?_
  refine GoC.region ?_
  first | refine GoO.pure (ps_loadAg rfl (by first | exact At.p0 | exact At.p1 | exact At.p2 | exact At.p3 | exact At.p4 | exact At.p5 | exact At.p6 | exact At.p7 | exact At.p8 | exact At.p9 | exact At.p10 | exact At.p11 | exact At.p12 | exact At.p13) (by first | exact At.p0 | exact At.p1 | exact At.p2 | exact At.p3 | exact At.p4 | exact At.p5 | exact At.p6 | exact At.p7 | exact At.p8 | exact At.p9 | exact At.p10 | exact At.p11 | exact At.p12 | exact At.p13) ?_ rfl rfl) ?_ | refine GoO.pure (ps_loadAgR rfl ?_ rfl rfl) ?_
  · first | exact Nat.zero_lt_one | assumption | omega | exact InI.of (by omega) (by omega) | (simp only [ints_len, bools_len, st1_len, arcs_len, lits_len, List.length_set, List.length_append, List.length_cons, List.length_nil, List.length_replicate]; omega)
  refine GoO.pure (ps_move rfl rfl) ?_
  refine GoO.effC (ef_call rfl (by first | exact (Take.nil _) | exact (Take.cons _ _ _ _ _ (by first | exact Rem.p0 | exact Rem.p1 | exact Rem.p2 | exact Rem.p3 | exact Rem.p4 | exact Rem.p5 | exact Rem.p6 | exact Rem.p7 | exact Rem.p8 | exact Rem.p9 | exact Rem.p10 | exact Rem.p11 | exact Rem.p12 | exact Rem.p13) (Take.nil _)) | exact (Take.cons _ _ _ _ _ (by first | exact Rem.p0 | exact Rem.p1 | exact Rem.p2 | exact Rem.p3 | exact Rem.p4 | exact Rem.p5 | exact Rem.p6 | exact Rem.p7 | exact Rem.p8 | exact Rem.p9 | exact Rem.p10 | exact Rem.p11 | exact Rem.p12 | exact Rem.p13) (Take.cons _ _ _ _ _ (by first | exact Rem.p0 | exact Rem.p1 | exact Rem.p2 | exact Rem.p3 | exact Rem.p4 | exact Rem.p5 | exact Rem.p6 | exact Rem.p7 | exact Rem.p8 | exact Rem.p9 | exact Rem.p10 | exact Rem.p11 | exact Rem.p12 | exact Rem.p13) (Take.nil _))) | exact (Take.cons _ _ _ _ _ (by first | exact Rem.p0 | exact Rem.p1 | exact Rem.p2 | exact Rem.p3 | exact Rem.p4 | exact Rem.p5 | exact Rem.p6 | exact Rem.p7 | exact Rem.p8 | exact Rem.p9 | exact Rem.p10 | exact Rem.p11 | exact Rem.p12 | exact Rem.p13) (Take.cons _ _ _ _ _ (by first | exact Rem.p0 | exact Rem.p1 | exact Rem.p2 | exact Rem.p3 | exact Rem.p4 | exact Rem.p5 | exact Rem.p6 | exact Rem.p7 | exact Rem.p8 | exact Rem.p9 | exact Rem.p10 | exact Rem.p11 | exact Rem.p12 | exact Rem.p13) (Take.cons _ _ _ _ _ (by first | exact Rem.p0 | exact Rem.p1 | exact Rem.p2 | exact Rem.p3 | exact Rem.p4 | exact Rem.p5 | exact Rem.p6 | exact Rem.p7 | exact Rem.p8 | exact Rem.p9 | exact Rem.p10 | exact Rem.p11 | exact Rem.p12 | exact Rem.p13) (Take.nil _)))) | exact (Take.cons _ _ _ _ _ (by first | exact Rem.p0 | exact Rem.p1 | exact Rem.p2 | exact Rem.p3 | exact Rem.p4 | exact Rem.p5 | exact Rem.p6 | exact Rem.p7 | exact Rem.p8 | exact Rem.p9 | exact Rem.p10 | exact Rem.p11 | exact Rem.p12 | exact Rem.p13) (Take.cons _ _ _ _ _ (by first | exact Rem.p0 | exact Rem.p1 | exact Rem.p2 | exact Rem.p3 | exact Rem.p4 | exact Rem.p5 | exact Rem.p6 | exact Rem.p7 | exact Rem.p8 | exact Rem.p9 | exact Rem.p10 | exact Rem.p11 | exact Rem.p12 | exact Rem.p13) (Take.cons _ _ _ _ _ (by first | exact Rem.p0 | exact Rem.p1 | exact Rem.p2 | exact Rem.p3 | exact Rem.p4 | exact Rem.p5 | exact Rem.p6 | exact Rem.p7 | exact Rem.p8 | exact Rem.p9 | exact Rem.p10 | exact Rem.p11 | exact Rem.p12 | exact Rem.p13) (Take.cons _ _ _ _ _ (by first | exact Rem.p0 | exact Rem.p1 | exact Rem.p2 | exact Rem.p3 | exact Rem.p4 | exact Rem.p5 | exact Rem.p6 | exact Rem.p7 | exact Rem.p8 | exact Rem.p9 | exact Rem.p10 | exact Rem.p11 | exact Rem.p12 | exact Rem.p13) (Take.nil _)))))) (by exact LendL.cons (by first | exact Lend.refl _ _ | exact Lend.all' (by first | exact At.p0 | exact At.p1 | exact At.p2 | exact At.p3 | exact At.p4 | exact At.p5 | exact At.p6 | exact At.p7 | exact At.p8 | exact At.p9 | exact At.p10 | exact At.p11 | exact At.p12 | exact At.p13) (by rfl) (by rfl) | exact Lend.nil | exact Lend.e0 | exact Lend.agL (by repeat (first | exact LendL.nil | refine LendL.cons (by first | exact Lend.refl _ _ | exact Lend.all' (by first | exact At.p0 | exact At.p1 | exact At.p2 | exact At.p3 | exact At.p4 | exact At.p5 | exact At.p6 | exact At.p7 | exact At.p8 | exact At.p9 | exact At.p10 | exact At.p11 | exact At.p12 | exact At.p13) (by rfl) (by rfl) | exact Lend.nil) ?_))) (LendL.cons (by first | exact Lend.refl _ _ | exact Lend.all' (by first | exact At.p0 | exact At.p1 | exact At.p2 | exact At.p3 | exact At.p4 | exact At.p5 | exact At.p6 | exact At.p7 | exact At.p8 | exact At.p9 | exact At.p10 | exact At.p11 | exact At.p12 | exact At.p13) (by rfl) (by rfl) | exact Lend.nil | exact Lend.e0 | exact Lend.agL (by repeat (first | exact LendL.nil | refine LendL.cons (by first | exact Lend.refl _ _ | exact Lend.all' (by first | exact At.p0 | exact At.p1 | exact At.p2 | exact At.p3 | exact At.p4 | exact At.p5 | exact At.p6 | exact At.p7 | exact At.p8 | exact At.p9 | exact At.p10 | exact At.p11 | exact At.p12 | exact At.p13) (by rfl) (by rfl) | exact Lend.nil) ?_))) (LendL.nil))) (from_spec g s hs) rfl) (fun r H hp => ?_)
  obtain ⟨βf, βk, rfl, rfl⟩ := hp
  refine GoO.pure (ps_move rfl rfl) ?_
  refine GoO.pure (ps_extract rfl rfl rfl) ?_
  refine GoO.pure (ps_extract rfl rfl rfl) ?_
  refine GoO.pure (ps_extract rfl rfl rfl) ?_
  refine GoO.pure (ps_assign rfl rfl) ?_
  refine GoO.pure (ps_assign rfl rfl) ?_
  refine GoO.pure (ps_assign rfl rfl) ?_
  refine GoO.nil ?_
  refine GoK.code ?_
  refine GoC.seq ?_
  refine GoC.seq ?_
  refine GoC.region ?_
  refine GoO.pure (ps_move rfl rfl) ?_
  first | refine GoO.pure (ps_neq rfl rfl rfl) ?_ | refine GoO.pure (ps_neqB rfl rfl rfl) ?_ | refine GoO.pure (ps_neqA rfl rfl rfl rfl) ?_
  refine GoO.pure (ps_move rfl rfl) ?_
  first | refine GoO.guardE rfl rfl rfl rfl (fun h18 => ?_) (fun h18 => ?_) | refine GoO.guard rfl rfl rfl rfl (fun h18 => ?_) (fun h18 => ?_)
  · skip
    first | refine GoO.pure (ps_fieldAddr rfl rfl) ?_ | refine GoO.pure (ps_fieldAddrR rfl rfl) ?_
    refine GoO.guardT rfl rfl rfl ?_
    first | refine GoO.pure (ps_load rfl (by first | exact At.p0 | exact At.p1 | exact At.p2 | exact At.p3 | exact At.p4 | exact At.p5 | exact At.p6 | exact At.p7 | exact At.p8 | exact At.p9 | exact At.p10 | exact At.p11 | exact At.p12 | exact At.p13) (by first | exact At.p0 | exact At.p1 | exact At.p2 | exact At.p3 | exact At.p4 | exact At.p5 | exact At.p6 | exact At.p7 | exact At.p8 | exact At.p9 | exact At.p10 | exact At.p11 | exact At.p12 | exact At.p13) ?_ rfl rfl) ?_ | refine GoO.pure (ps_loadR rfl ?_ rfl rfl) ?_
    · first | exact Nat.zero_lt_one | assumption | omega | exact InI.of (by omega) (by omega) | (simp only [ints_len, bools_len, st1_len, arcs_len, lits_len, List.length_set, List.length_append, List.length_cons, List.length_nil, List.length_replicate]; omega)
    refine GoO.guardT rfl rfl rfl ?_
    refine GoO.pure (ps_len rfl (by constructor) rfl) ?_
    refine GoO.guardT rfl rfl rfl ?_
    first | refine GoO.pure (ps_eql rfl rfl rfl) ?_ | refine GoO.pure (ps_eqlB rfl rfl rfl) ?_ | refine GoO.pure (ps_eqlA rfl rfl rfl rfl) ?_
    refine GoO.pure (ps_pickF rfl rfl rfl) ?_
    refine GoO.pure (ps_move rfl rfl) ?_
    first | refine GoO.guardE rfl rfl rfl rfl (fun h25 => ?_) (fun h25 => ?_) | refine GoO.guard rfl rfl rfl rfl (fun h25 => ?_) (fun h25 => ?_)
    · skip
      refine GoO.pure (ps_move rfl rfl) ?_
      refine GoO.guardT rfl rfl rfl ?_
      refine GoO.pure (ps_len rfl (by constructor) rfl) ?_
      refine GoO.guardT rfl rfl rfl ?_
      refine GoO.pure (ps_gtr rfl rfl rfl) ?_
      refine GoO.pure (ps_pickF rfl rfl rfl) ?_
      refine GoO.nil ?_
      refine GoK.code ?_
      first | refine GoC.condD rfl (fun h30 => ?_) (fun h30 => ?_) | refine GoC.cond rfl (fun h30 => ?_) (fun h30 => ?_)
      · skip
        refine GoC.seq ?_
        refine GoC.region ?_
        refine GoO.pure (ps_move rfl rfl) ?_
        first | refine GoO.pure (ps_neq rfl rfl rfl) ?_ | refine GoO.pure (ps_neqB rfl rfl rfl) ?_ | refine GoO.pure (ps_neqA rfl rfl rfl rfl) ?_
        refine GoO.pure (ps_move rfl rfl) ?_
        first | refine GoO.guardE rfl rfl rfl rfl (fun h34 => ?_) (fun h34 => ?_) | refine GoO.guard rfl rfl rfl rfl (fun h34 => ?_) (fun h34 => ?_)
        · skip
          refine GoO.pure (ps_move rfl rfl) ?_
          refine GoO.guardT rfl rfl rfl ?_
          refine GoO.pure (ps_len rfl (by constructor) rfl) ?_
          refine GoO.guardT rfl rfl rfl ?_
          first | refine GoO.pure (ps_fieldAddr rfl rfl) ?_ | refine GoO.pure (ps_fieldAddrR rfl rfl) ?_
          refine GoO.guardT rfl rfl rfl ?_
          first | refine GoO.pure (ps_load rfl (by first | exact At.p0 | exact At.p1 | exact At.p2 | exact At.p3 | exact At.p4 | exact At.p5 | exact At.p6 | exact At.p7 | exact At.p8 | exact At.p9 | exact At.p10 | exact At.p11 | exact At.p12 | exact At.p13) (by first | exact At.p0 | exact At.p1 | exact At.p2 | exact At.p3 | exact At.p4 | exact At.p5 | exact At.p6 | exact At.p7 | exact At.p8 | exact At.p9 | exact At.p10 | exact At.p11 | exact At.p12 | exact At.p13) ?_ rfl rfl) ?_ | refine GoO.pure (ps_loadR rfl ?_ rfl rfl) ?_
          · first | exact Nat.zero_lt_one | assumption | omega | exact InI.of (by omega) (by omega) | (simp only [ints_len, bools_len, st1_len, arcs_len, lits_len, List.length_set, List.length_append, List.length_cons, List.length_nil, List.length_replicate]; omega)
          refine GoO.guardT rfl rfl rfl ?_
          first | refine GoO.pure (ps_eql rfl rfl rfl) ?_ | refine GoO.pure (ps_eqlB rfl rfl rfl) ?_ | refine GoO.pure (ps_eqlA rfl rfl rfl rfl) ?_
          refine GoO.pure (ps_pickF rfl rfl rfl) ?_
          refine GoO.pure (ps_move rfl rfl) ?_
          first | refine GoO.guardE rfl rfl rfl rfl (fun h42 => ?_) (fun h42 => ?_) | refine GoO.guard rfl rfl rfl rfl (fun h42 => ?_) (fun h42 => ?_)
          · skip
            refine GoO.pure (ps_move rfl rfl) ?_
            refine GoO.guardT rfl rfl rfl ?_
            refine GoO.pure (ps_len rfl (by constructor) rfl) ?_
            refine GoO.guardT rfl rfl rfl ?_
            refine GoO.pure (ps_gtr rfl rfl rfl) ?_
            refine GoO.pure (ps_pickF rfl rfl rfl) ?_
            refine GoO.pure (ps_assign rfl rfl) ?_
            refine GoO.nil ?_
            refine GoK.code ?_
            refine GoC.ret1 (H' := []) Try.results5 (ResD.tmp rfl) (by exact (Take.nil _)) ?_
            · refine ⟨?_, rfl⟩; first | rfl | exact bo_true (by omega) | (have hf := from_ok (Classical.not_not.1 ‹¬ (fromF g s).1 ≠ 0›); have := hf.l1; have := hf.ok.n0; omega)
          · skip
            refine GoO.guardF rfl rfl rfl rfl ?_
            refine GoO.guardF rfl rfl rfl rfl ?_
            refine GoO.pure (ps_pickT rfl rfl rfl) ?_
            refine GoO.pure (ps_assign rfl rfl) ?_
            refine GoO.nil ?_
            refine GoK.code ?_
            refine GoC.ret1 (H' := []) Try.results5 (ResD.tmp rfl) (by exact (Take.nil _)) ?_
            · refine ⟨?_, rfl⟩; first | rfl | exact bo_true (by omega) | (have hf := from_ok (Classical.not_not.1 ‹¬ (fromF g s).1 ≠ 0›); have := hf.l1; have := hf.ok.n0; omega)
        · skip
          refine GoO.guardF rfl rfl rfl rfl ?_
          refine GoO.guardF rfl rfl rfl rfl ?_
          refine GoO.guardF rfl rfl rfl rfl ?_
          refine GoO.guardF rfl rfl rfl rfl ?_
          refine GoO.pure (ps_pickT rfl rfl rfl) ?_
          refine GoO.pure (ps_move rfl rfl) ?_
          refine GoO.guardF rfl rfl rfl rfl ?_
          refine GoO.guardF rfl rfl rfl rfl ?_
          refine GoO.guardF rfl rfl rfl rfl ?_
          refine GoO.pure (ps_pickT rfl rfl rfl) ?_
          refine GoO.pure (ps_assign rfl rfl) ?_
          refine GoO.nil ?_
          refine GoK.code ?_
          refine GoC.ret1 (H' := []) Try.results5 (ResD.tmp rfl) (by exact (Take.nil _)) ?_
          · refine ⟨?_, rfl⟩; first | rfl | exact bo_true (by omega) | (have hf := from_ok (Classical.not_not.1 ‹¬ (fromF g s).1 ≠ 0›); have := hf.l1; have := hf.ok.n0; omega)
      · skip
        refine GoC.skip ?_
        refine GoK.code ?_
        refine GoC.seq ?_
        refine GoC.region ?_
        refine GoO.pure (ps_move rfl rfl) ?_
        refine GoO.pure (ps_assign rfl rfl) ?_
        refine GoO.pure (ps_assign rfl rfl) ?_
        refine GoO.nil ?_
        refine GoK.code ?_
        refine GoC.seq ?_
        refine GoC.seq ?_
        refine GoC.region ?_
        refine GoO.pure (ps_move rfl rfl) ?_
        refine GoO.pure (ps_len rfl (by constructor) rfl) ?_
        refine GoO.pure (ps_move rfl rfl) ?_
        refine GoO.nil ?_
        refine GoK.code ?_
        refine GoC.block ?_
        have hf := from_ok (Classical.not_not.1 ‹¬ (fromF g s).1 ≠ 0›)
        have he1 := hf.l1
        have he2 := hf.l2
        have hs0 := hf.s0
        have hs2 := hf.s1
        have hal := hf.ok.len
        have hn0 := hf.ok.n0
        refine GoC.loopE (σ := Nat × Int × Int) [3, 7, 8, 52, 53] (fun (k, at_, m) => [(54, .i (k : Int)), (10, .i at_), (11, .i m)]) (fun (k, at_, m) => []) (fun n (k, at_, m) => n = steps.length - k ∧ k ≤ steps.length ∧ -(10000 * (k : Int)) ≤ m ∧ m ≤ 10000 * k ∧ 0 ≤ at_ ∧ at_ < g.n ∧ (fromF g s).2.2.getD at_.toNat false = true ∧ (fromF g s).2.1.getD at_.toNat 0 ≤ m) (steps.length) (0, s, 0) ?_ (by repeat (first | exact EnvLe.nil | refine EnvLe.cons rfl ?_)) (by exact (Take.nil _)) ?_
        · exact ⟨by omega, by omega, by omega, by omega, hs0, hs2, hf.ks, by rw [hf.fs]; omega⟩
        rintro n ⟨k, at_, m⟩ ⟨rfl, hk, hm1, hm2, ha0, ha1, hkn, hfa⟩
        refine GoC.seq ?_
        refine GoC.region ?_
        refine GoO.pure (ps_lss rfl rfl rfl) ?_
        refine GoO.nil ?_
        refine GoK.code ?_
        refine GoC.seq ?_
        first | refine GoC.condD rfl (fun h61 => ?_) (fun h61 => ?_) | refine GoC.cond rfl (fun h61 => ?_) (fun h61 => ?_)
        · skip
          have hlt : k < steps.length := by omega
          have hst := hs1.1 _ (mem_getD0 hlt)
          have hr0 := Int.emod_nonneg (steps.getD k 0) (show (g.as.length : Int) ≠ 0 by omega)
          have hr1 := Int.emod_lt_of_pos (steps.getD k 0) (show 0 < (g.as.length : Int) by omega)
          have hja := mem_getD (l := g.as) (k := (steps.getD k 0 % (g.as.length : Int)).toNat) (by omega)
          have ha := hf.ok.arc _ hja
          have har := hf.arc _ hja
          have a3 := ha.t0
          have a4 := ha.t1
          have a5 := ha.c0
          have a6 := ha.c1
          refine GoC.skip ?_
          refine GoK.code ?_
          refine GoC.seq ?_
          refine GoC.block ?_
          refine GoC.seq ?_
          refine GoC.region ?_
          first | refine GoO.pure (ps_indexAddr0N rfl rfl ?_ rfl) ?_ | refine GoO.pure (ps_indexAddrRN rfl rfl ?_ rfl) ?_ | refine GoO.pure (ps_indexAddr0 rfl rfl ?_ rfl) ?_ | refine GoO.pure (ps_indexAddrN rfl rfl ?_ rfl) ?_ | refine GoO.pure (ps_indexAddrRN rfl rfl ?_ rfl) ?_ | refine GoO.pure (ps_indexAddr rfl rfl ?_ rfl) ?_ | refine GoO.pure (ps_indexAddrR rfl rfl ?_ rfl) ?_
          · first | exact Nat.zero_lt_one | assumption | omega | exact InI.of (by omega) (by omega) | (simp only [ints_len, bools_len, st1_len, arcs_len, lits_len, List.length_set, List.length_append, List.length_cons, List.length_nil, List.length_replicate]; omega)
          first | refine GoO.pure (ps_load rfl (by first | exact At.p0 | exact At.p1 | exact At.p2 | exact At.p3 | exact At.p4 | exact At.p5 | exact At.p6 | exact At.p7 | exact At.p8 | exact At.p9 | exact At.p10 | exact At.p11 | exact At.p12 | exact At.p13) (by first | exact At.p0 | exact At.p1 | exact At.p2 | exact At.p3 | exact At.p4 | exact At.p5 | exact At.p6 | exact At.p7 | exact At.p8 | exact At.p9 | exact At.p10 | exact At.p11 | exact At.p12 | exact At.p13) ?_ rfl rfl) ?_ | refine GoO.pure (ps_loadR rfl ?_ rfl rfl) ?_
          · first | exact Nat.zero_lt_one | assumption | omega | exact InI.of (by omega) (by omega) | (simp only [ints_len, bools_len, st1_len, arcs_len, lits_len, List.length_set, List.length_append, List.length_cons, List.length_nil, List.length_replicate]; omega)
          refine GoO.pure (ps_assign rfl rfl) ?_
          refine GoO.nil ?_
          refine GoK.code ?_
          refine GoC.seq ?_
          refine GoC.drawP (.q 0 (.q 1 (.q 2 (.q 3 (.q 4 (.q 5 (.two 6 9 (.q 7 (.q 8 (.one 9 (.one 10 (.done))))) (.one 6 (.q 7 (.q 8 (.one 10 (.done)))))))))))) [(3, _, _, _)] follows (by kernel_rfl) (by exact (Take.cons _ _ _ _ _ (by first | exact Rem.p0 | exact Rem.p1 | exact Rem.p2 | exact Rem.p3 | exact Rem.p4 | exact Rem.p5 | exact Rem.p6 | exact Rem.p7 | exact Rem.p8 | exact Rem.p9 | exact Rem.p10 | exact Rem.p11 | exact Rem.p12 | exact Rem.p13) (Take.nil _))) ?_
          first | refine GoP.qN rfl (ps_fieldAddr rfl rfl) ?_ | refine GoP.qN rfl (ps_fieldAddrR rfl rfl) ?_
          first | refine GoP.qN rfl (ps_load rfl (by first | exact At.p0 | exact At.p1 | exact At.p2 | exact At.p3 | exact At.p4 | exact At.p5 | exact At.p6 | exact At.p7 | exact At.p8 | exact At.p9 | exact At.p10 | exact At.p11 | exact At.p12 | exact At.p13) (by first | exact At.p0 | exact At.p1 | exact At.p2 | exact At.p3 | exact At.p4 | exact At.p5 | exact At.p6 | exact At.p7 | exact At.p8 | exact At.p9 | exact At.p10 | exact At.p11 | exact At.p12 | exact At.p13) ?_ rfl rfl) ?_ | refine GoP.qN rfl (ps_loadR rfl ?_ rfl rfl) ?_
          · first | exact Nat.zero_lt_one | assumption | omega | exact InI.of (by omega) (by omega) | (simp only [ints_len, bools_len, st1_len, arcs_len, lits_len, List.length_set, List.length_append, List.length_cons, List.length_nil, List.length_replicate]; omega)
          refine GoP.qN rfl (ps_move rfl rfl) ?_
          first | refine GoP.qN rfl (ps_fieldAddr rfl rfl) ?_ | refine GoP.qN rfl (ps_fieldAddrR rfl rfl) ?_
          first | refine GoP.qN rfl (ps_load rfl (by first | exact At.p0 | exact At.p1 | exact At.p2 | exact At.p3 | exact At.p4 | exact At.p5 | exact At.p6 | exact At.p7 | exact At.p8 | exact At.p9 | exact At.p10 | exact At.p11 | exact At.p12 | exact At.p13) (by first | exact At.p0 | exact At.p1 | exact At.p2 | exact At.p3 | exact At.p4 | exact At.p5 | exact At.p6 | exact At.p7 | exact At.p8 | exact At.p9 | exact At.p10 | exact At.p11 | exact At.p12 | exact At.p13) ?_ rfl rfl) ?_ | refine GoP.qN rfl (ps_loadR rfl ?_ rfl rfl) ?_
          · first | exact Nat.zero_lt_one | assumption | omega | exact InI.of (by omega) (by omega) | (simp only [ints_len, bools_len, st1_len, arcs_len, lits_len, List.length_set, List.length_append, List.length_cons, List.length_nil, List.length_replicate]; omega)
          refine GoP.qN rfl (ps_len rfl (by constructor) rfl) ?_
          apply GoP.fork1
          · exact rfl
          · exact rfl
          · exact trivial
          · exact trivial
          · exact ef_call rfl (by first | exact (Take.nil _) | exact (Take.cons _ _ _ _ _ (by first | exact Rem.p0 | exact Rem.p1 | exact Rem.p2 | exact Rem.p3 | exact Rem.p4 | exact Rem.p5 | exact Rem.p6 | exact Rem.p7 | exact Rem.p8 | exact Rem.p9 | exact Rem.p10 | exact Rem.p11 | exact Rem.p12 | exact Rem.p13) (Take.nil _)) | exact (Take.cons _ _ _ _ _ (by first | exact Rem.p0 | exact Rem.p1 | exact Rem.p2 | exact Rem.p3 | exact Rem.p4 | exact Rem.p5 | exact Rem.p6 | exact Rem.p7 | exact Rem.p8 | exact Rem.p9 | exact Rem.p10 | exact Rem.p11 | exact Rem.p12 | exact Rem.p13) (Take.cons _ _ _ _ _ (by first | exact Rem.p0 | exact Rem.p1 | exact Rem.p2 | exact Rem.p3 | exact Rem.p4 | exact Rem.p5 | exact Rem.p6 | exact Rem.p7 | exact Rem.p8 | exact Rem.p9 | exact Rem.p10 | exact Rem.p11 | exact Rem.p12 | exact Rem.p13) (Take.nil _))) | exact (Take.cons _ _ _ _ _ (by first | exact Rem.p0 | exact Rem.p1 | exact Rem.p2 | exact Rem.p3 | exact Rem.p4 | exact Rem.p5 | exact Rem.p6 | exact Rem.p7 | exact Rem.p8 | exact Rem.p9 | exact Rem.p10 | exact Rem.p11 | exact Rem.p12 | exact Rem.p13) (Take.cons _ _ _ _ _ (by first | exact Rem.p0 | exact Rem.p1 | exact Rem.p2 | exact Rem.p3 | exact Rem.p4 | exact Rem.p5 | exact Rem.p6 | exact Rem.p7 | exact Rem.p8 | exact Rem.p9 | exact Rem.p10 | exact Rem.p11 | exact Rem.p12 | exact Rem.p13) (Take.cons _ _ _ _ _ (by first | exact Rem.p0 | exact Rem.p1 | exact Rem.p2 | exact Rem.p3 | exact Rem.p4 | exact Rem.p5 | exact Rem.p6 | exact Rem.p7 | exact Rem.p8 | exact Rem.p9 | exact Rem.p10 | exact Rem.p11 | exact Rem.p12 | exact Rem.p13) (Take.nil _)))) | exact (Take.cons _ _ _ _ _ (by first | exact Rem.p0 | exact Rem.p1 | exact Rem.p2 | exact Rem.p3 | exact Rem.p4 | exact Rem.p5 | exact Rem.p6 | exact Rem.p7 | exact Rem.p8 | exact Rem.p9 | exact Rem.p10 | exact Rem.p11 | exact Rem.p12 | exact Rem.p13) (Take.cons _ _ _ _ _ (by first | exact Rem.p0 | exact Rem.p1 | exact Rem.p2 | exact Rem.p3 | exact Rem.p4 | exact Rem.p5 | exact Rem.p6 | exact Rem.p7 | exact Rem.p8 | exact Rem.p9 | exact Rem.p10 | exact Rem.p11 | exact Rem.p12 | exact Rem.p13) (Take.cons _ _ _ _ _ (by first | exact Rem.p0 | exact Rem.p1 | exact Rem.p2 | exact Rem.p3 | exact Rem.p4 | exact Rem.p5 | exact Rem.p6 | exact Rem.p7 | exact Rem.p8 | exact Rem.p9 | exact Rem.p10 | exact Rem.p11 | exact Rem.p12 | exact Rem.p13) (Take.cons _ _ _ _ _ (by first | exact Rem.p0 | exact Rem.p1 | exact Rem.p2 | exact Rem.p3 | exact Rem.p4 | exact Rem.p5 | exact Rem.p6 | exact Rem.p7 | exact Rem.p8 | exact Rem.p9 | exact Rem.p10 | exact Rem.p11 | exact Rem.p12 | exact Rem.p13) (Take.nil _)))))) (by exact LendL.cons (by first | exact Lend.refl _ _ | exact Lend.all' (by first | exact At.p0 | exact At.p1 | exact At.p2 | exact At.p3 | exact At.p4 | exact At.p5 | exact At.p6 | exact At.p7 | exact At.p8 | exact At.p9 | exact At.p10 | exact At.p11 | exact At.p12 | exact At.p13) (by rfl) (by rfl) | exact Lend.nil | exact Lend.e0 | exact Lend.agL (by repeat (first | exact LendL.nil | refine LendL.cons (by first | exact Lend.refl _ _ | exact Lend.all' (by first | exact At.p0 | exact At.p1 | exact At.p2 | exact At.p3 | exact At.p4 | exact At.p5 | exact At.p6 | exact At.p7 | exact At.p8 | exact At.p9 | exact At.p10 | exact At.p11 | exact At.p12 | exact At.p13) (by rfl) (by rfl) | exact Lend.nil) (by first | exact Nat.zero_lt_one | assumption | omega | exact InI.of (by omega) (by omega) | (simp only [ints_len, bools_len, st1_len, arcs_len, lits_len, List.length_set, List.length_append, List.length_cons, List.length_nil, List.length_replicate]; omega))))) (LendL.cons (by first | exact Lend.refl _ _ | exact Lend.all' (by first | exact At.p0 | exact At.p1 | exact At.p2 | exact At.p3 | exact At.p4 | exact At.p5 | exact At.p6 | exact At.p7 | exact At.p8 | exact At.p9 | exact At.p10 | exact At.p11 | exact At.p12 | exact At.p13) (by rfl) (by rfl) | exact Lend.nil | exact Lend.e0 | exact Lend.agL (by repeat (first | exact LendL.nil | refine LendL.cons (by first | exact Lend.refl _ _ | exact Lend.all' (by first | exact At.p0 | exact At.p1 | exact At.p2 | exact At.p3 | exact At.p4 | exact At.p5 | exact At.p6 | exact At.p7 | exact At.p8 | exact At.p9 | exact At.p10 | exact At.p11 | exact At.p12 | exact At.p13) (by rfl) (by rfl) | exact Lend.nil) (by first | exact Nat.zero_lt_one | assumption | omega | exact InI.of (by omega) (by omega) | (simp only [ints_len, bools_len, st1_len, arcs_len, lits_len, List.length_set, List.length_append, List.length_cons, List.length_nil, List.length_replicate]; omega))))) (LendL.nil))) (rest_spec (steps.getD k 0) g.as.length hst (by omega) (by omega)) rfl
          · exact ef_alloc rfl
          · exact (by first | exact (Take.nil _) | exact (Take.cons _ _ _ _ _ (by first | exact Rem.p0 | exact Rem.p1 | exact Rem.p2 | exact Rem.p3 | exact Rem.p4 | exact Rem.p5 | exact Rem.p6 | exact Rem.p7 | exact Rem.p8 | exact Rem.p9 | exact Rem.p10 | exact Rem.p11 | exact Rem.p12 | exact Rem.p13) (Take.nil _)) | exact (Take.cons _ _ _ _ _ (by first | exact Rem.p0 | exact Rem.p1 | exact Rem.p2 | exact Rem.p3 | exact Rem.p4 | exact Rem.p5 | exact Rem.p6 | exact Rem.p7 | exact Rem.p8 | exact Rem.p9 | exact Rem.p10 | exact Rem.p11 | exact Rem.p12 | exact Rem.p13) (Take.cons _ _ _ _ _ (by first | exact Rem.p0 | exact Rem.p1 | exact Rem.p2 | exact Rem.p3 | exact Rem.p4 | exact Rem.p5 | exact Rem.p6 | exact Rem.p7 | exact Rem.p8 | exact Rem.p9 | exact Rem.p10 | exact Rem.p11 | exact Rem.p12 | exact Rem.p13) (Take.nil _))) | exact (Take.cons _ _ _ _ _ (by first | exact Rem.p0 | exact Rem.p1 | exact Rem.p2 | exact Rem.p3 | exact Rem.p4 | exact Rem.p5 | exact Rem.p6 | exact Rem.p7 | exact Rem.p8 | exact Rem.p9 | exact Rem.p10 | exact Rem.p11 | exact Rem.p12 | exact Rem.p13) (Take.cons _ _ _ _ _ (by first | exact Rem.p0 | exact Rem.p1 | exact Rem.p2 | exact Rem.p3 | exact Rem.p4 | exact Rem.p5 | exact Rem.p6 | exact Rem.p7 | exact Rem.p8 | exact Rem.p9 | exact Rem.p10 | exact Rem.p11 | exact Rem.p12 | exact Rem.p13) (Take.cons _ _ _ _ _ (by first | exact Rem.p0 | exact Rem.p1 | exact Rem.p2 | exact Rem.p3 | exact Rem.p4 | exact Rem.p5 | exact Rem.p6 | exact Rem.p7 | exact Rem.p8 | exact Rem.p9 | exact Rem.p10 | exact Rem.p11 | exact Rem.p12 | exact Rem.p13) (Take.nil _)))) | exact (Take.cons _ _ _ _ _ (by first | exact Rem.p0 | exact Rem.p1 | exact Rem.p2 | exact Rem.p3 | exact Rem.p4 | exact Rem.p5 | exact Rem.p6 | exact Rem.p7 | exact Rem.p8 | exact Rem.p9 | exact Rem.p10 | exact Rem.p11 | exact Rem.p12 | exact Rem.p13) (Take.cons _ _ _ _ _ (by first | exact Rem.p0 | exact Rem.p1 | exact Rem.p2 | exact Rem.p3 | exact Rem.p4 | exact Rem.p5 | exact Rem.p6 | exact Rem.p7 | exact Rem.p8 | exact Rem.p9 | exact Rem.p10 | exact Rem.p11 | exact Rem.p12 | exact Rem.p13) (Take.cons _ _ _ _ _ (by first | exact Rem.p0 | exact Rem.p1 | exact Rem.p2 | exact Rem.p3 | exact Rem.p4 | exact Rem.p5 | exact Rem.p6 | exact Rem.p7 | exact Rem.p8 | exact Rem.p9 | exact Rem.p10 | exact Rem.p11 | exact Rem.p12 | exact Rem.p13) (Take.cons _ _ _ _ _ (by first | exact Rem.p0 | exact Rem.p1 | exact Rem.p2 | exact Rem.p3 | exact Rem.p4 | exact Rem.p5 | exact Rem.p6 | exact Rem.p7 | exact Rem.p8 | exact Rem.p9 | exact Rem.p10 | exact Rem.p11 | exact Rem.p12 | exact Rem.p13) (Take.nil _))))))
          · exact (by first | exact (Take.nil _) | exact (Take.cons _ _ _ _ _ (by first | exact Rem.p0 | exact Rem.p1 | exact Rem.p2 | exact Rem.p3 | exact Rem.p4 | exact Rem.p5 | exact Rem.p6 | exact Rem.p7 | exact Rem.p8 | exact Rem.p9 | exact Rem.p10 | exact Rem.p11 | exact Rem.p12 | exact Rem.p13) (Take.nil _)) | exact (Take.cons _ _ _ _ _ (by first | exact Rem.p0 | exact Rem.p1 | exact Rem.p2 | exact Rem.p3 | exact Rem.p4 | exact Rem.p5 | exact Rem.p6 | exact Rem.p7 | exact Rem.p8 | exact Rem.p9 | exact Rem.p10 | exact Rem.p11 | exact Rem.p12 | exact Rem.p13) (Take.cons _ _ _ _ _ (by first | exact Rem.p0 | exact Rem.p1 | exact Rem.p2 | exact Rem.p3 | exact Rem.p4 | exact Rem.p5 | exact Rem.p6 | exact Rem.p7 | exact Rem.p8 | exact Rem.p9 | exact Rem.p10 | exact Rem.p11 | exact Rem.p12 | exact Rem.p13) (Take.nil _))) | exact (Take.cons _ _ _ _ _ (by first | exact Rem.p0 | exact Rem.p1 | exact Rem.p2 | exact Rem.p3 | exact Rem.p4 | exact Rem.p5 | exact Rem.p6 | exact Rem.p7 | exact Rem.p8 | exact Rem.p9 | exact Rem.p10 | exact Rem.p11 | exact Rem.p12 | exact Rem.p13) (Take.cons _ _ _ _ _ (by first | exact Rem.p0 | exact Rem.p1 | exact Rem.p2 | exact Rem.p3 | exact Rem.p4 | exact Rem.p5 | exact Rem.p6 | exact Rem.p7 | exact Rem.p8 | exact Rem.p9 | exact Rem.p10 | exact Rem.p11 | exact Rem.p12 | exact Rem.p13) (Take.cons _ _ _ _ _ (by first | exact Rem.p0 | exact Rem.p1 | exact Rem.p2 | exact Rem.p3 | exact Rem.p4 | exact Rem.p5 | exact Rem.p6 | exact Rem.p7 | exact Rem.p8 | exact Rem.p9 | exact Rem.p10 | exact Rem.p11 | exact Rem.p12 | exact Rem.p13) (Take.nil _)))) | exact (Take.cons _ _ _ _ _ (by first | exact Rem.p0 | exact Rem.p1 | exact Rem.p2 | exact Rem.p3 | exact Rem.p4 | exact Rem.p5 | exact Rem.p6 | exact Rem.p7 | exact Rem.p8 | exact Rem.p9 | exact Rem.p10 | exact Rem.p11 | exact Rem.p12 | exact Rem.p13) (Take.cons _ _ _ _ _ (by first | exact Rem.p0 | exact Rem.p1 | exact Rem.p2 | exact Rem.p3 | exact Rem.p4 | exact Rem.p5 | exact Rem.p6 | exact Rem.p7 | exact Rem.p8 | exact Rem.p9 | exact Rem.p10 | exact Rem.p11 | exact Rem.p12 | exact Rem.p13) (Take.cons _ _ _ _ _ (by first | exact Rem.p0 | exact Rem.p1 | exact Rem.p2 | exact Rem.p3 | exact Rem.p4 | exact Rem.p5 | exact Rem.p6 | exact Rem.p7 | exact Rem.p8 | exact Rem.p9 | exact Rem.p10 | exact Rem.p11 | exact Rem.p12 | exact Rem.p13) (Take.cons _ _ _ _ _ (by first | exact Rem.p0 | exact Rem.p1 | exact Rem.p2 | exact Rem.p3 | exact Rem.p4 | exact Rem.p5 | exact Rem.p6 | exact Rem.p7 | exact Rem.p8 | exact Rem.p9 | exact Rem.p10 | exact Rem.p11 | exact Rem.p12 | exact Rem.p13) (Take.nil _))))))
          · intro hQ
            rintro _ ⟨_, _, hp, rfl⟩
            obtain ⟨rfl, rfl⟩ := hp
            first | refine GoP.qN rfl (ps_indexAddr0N rfl rfl ?_ rfl) ?_ | refine GoP.qN rfl (ps_indexAddrRN rfl rfl ?_ rfl) ?_ | refine GoP.qN rfl (ps_indexAddr0 rfl rfl ?_ rfl) ?_ | refine GoP.qN rfl (ps_indexAddrN rfl rfl ?_ rfl) ?_ | refine GoP.qN rfl (ps_indexAddrRN rfl rfl ?_ rfl) ?_ | refine GoP.qN rfl (ps_indexAddr rfl rfl ?_ rfl) ?_ | refine GoP.qN rfl (ps_indexAddrR rfl rfl ?_ rfl) ?_
            · first | exact Nat.zero_lt_one | assumption | omega | exact InI.of (by omega) (by omega) | (simp only [ints_len, bools_len, st1_len, arcs_len, lits_len, List.length_set, List.length_append, List.length_cons, List.length_nil, List.length_replicate]; omega)
            first | refine GoP.qN rfl (ps_loadAg rfl (by first | exact At.p0 | exact At.p1 | exact At.p2 | exact At.p3 | exact At.p4 | exact At.p5 | exact At.p6 | exact At.p7 | exact At.p8 | exact At.p9 | exact At.p10 | exact At.p11 | exact At.p12 | exact At.p13) (by first | exact At.p0 | exact At.p1 | exact At.p2 | exact At.p3 | exact At.p4 | exact At.p5 | exact At.p6 | exact At.p7 | exact At.p8 | exact At.p9 | exact At.p10 | exact At.p11 | exact At.p12 | exact At.p13) ?_ rfl rfl) ?_ | refine GoP.qN rfl (ps_loadAgR rfl ?_ rfl rfl) ?_
            · first | exact Nat.zero_lt_one | assumption | omega | exact InI.of (by omega) (by omega) | (simp only [ints_len, bools_len, st1_len, arcs_len, lits_len, List.length_set, List.length_append, List.length_cons, List.length_nil, List.length_replicate]; omega)
            refine GoP.oneB rfl trivial (ef_alloc rfl) (by exact (Take.cons _ _ _ _ _ (by first | exact Rem.p0 | exact Rem.p1 | exact Rem.p2 | exact Rem.p3 | exact Rem.p4 | exact Rem.p5 | exact Rem.p6 | exact Rem.p7 | exact Rem.p8 | exact Rem.p9 | exact Rem.p10 | exact Rem.p11 | exact Rem.p12 | exact Rem.p13) (Take.nil _))) (fun β74 => ?_)
            refine GoP.one1 rfl trivial (ef_storeAg rfl rfl (by first | exact At.p0 | exact At.p1 | exact At.p2 | exact At.p3 | exact At.p4 | exact At.p5 | exact At.p6 | exact At.p7 | exact At.p8 | exact At.p9 | exact At.p10 | exact At.p11 | exact At.p12 | exact At.p13) upd_whole Nat.zero_lt_one rfl) (by exact (Take.cons _ _ _ _ _ (by first | exact Rem.p0 | exact Rem.p1 | exact Rem.p2 | exact Rem.p3 | exact Rem.p4 | exact Rem.p5 | exact Rem.p6 | exact Rem.p7 | exact Rem.p8 | exact Rem.p9 | exact Rem.p10 | exact Rem.p11 | exact Rem.p12 | exact Rem.p13) (Take.cons _ _ _ _ _ (by first | exact Rem.p0 | exact Rem.p1 | exact Rem.p2 | exact Rem.p3 | exact Rem.p4 | exact Rem.p5 | exact Rem.p6 | exact Rem.p7 | exact Rem.p8 | exact Rem.p9 | exact Rem.p10 | exact Rem.p11 | exact Rem.p12 | exact Rem.p13) (Take.nil _)))) ?_
            exact GoP.done (hQ β74)
          · intro hQ
            rintro _ ⟨β76, rfl⟩
            refine GoP.oneC rfl trivial (ef_call rfl (by first | exact (Take.nil _) | exact (Take.cons _ _ _ _ _ (by first | exact Rem.p0 | exact Rem.p1 | exact Rem.p2 | exact Rem.p3 | exact Rem.p4 | exact Rem.p5 | exact Rem.p6 | exact Rem.p7 | exact Rem.p8 | exact Rem.p9 | exact Rem.p10 | exact Rem.p11 | exact Rem.p12 | exact Rem.p13) (Take.nil _)) | exact (Take.cons _ _ _ _ _ (by first | exact Rem.p0 | exact Rem.p1 | exact Rem.p2 | exact Rem.p3 | exact Rem.p4 | exact Rem.p5 | exact Rem.p6 | exact Rem.p7 | exact Rem.p8 | exact Rem.p9 | exact Rem.p10 | exact Rem.p11 | exact Rem.p12 | exact Rem.p13) (Take.cons _ _ _ _ _ (by first | exact Rem.p0 | exact Rem.p1 | exact Rem.p2 | exact Rem.p3 | exact Rem.p4 | exact Rem.p5 | exact Rem.p6 | exact Rem.p7 | exact Rem.p8 | exact Rem.p9 | exact Rem.p10 | exact Rem.p11 | exact Rem.p12 | exact Rem.p13) (Take.nil _))) | exact (Take.cons _ _ _ _ _ (by first | exact Rem.p0 | exact Rem.p1 | exact Rem.p2 | exact Rem.p3 | exact Rem.p4 | exact Rem.p5 | exact Rem.p6 | exact Rem.p7 | exact Rem.p8 | exact Rem.p9 | exact Rem.p10 | exact Rem.p11 | exact Rem.p12 | exact Rem.p13) (Take.cons _ _ _ _ _ (by first | exact Rem.p0 | exact Rem.p1 | exact Rem.p2 | exact Rem.p3 | exact Rem.p4 | exact Rem.p5 | exact Rem.p6 | exact Rem.p7 | exact Rem.p8 | exact Rem.p9 | exact Rem.p10 | exact Rem.p11 | exact Rem.p12 | exact Rem.p13) (Take.cons _ _ _ _ _ (by first | exact Rem.p0 | exact Rem.p1 | exact Rem.p2 | exact Rem.p3 | exact Rem.p4 | exact Rem.p5 | exact Rem.p6 | exact Rem.p7 | exact Rem.p8 | exact Rem.p9 | exact Rem.p10 | exact Rem.p11 | exact Rem.p12 | exact Rem.p13) (Take.nil _)))) | exact (Take.cons _ _ _ _ _ (by first | exact Rem.p0 | exact Rem.p1 | exact Rem.p2 | exact Rem.p3 | exact Rem.p4 | exact Rem.p5 | exact Rem.p6 | exact Rem.p7 | exact Rem.p8 | exact Rem.p9 | exact Rem.p10 | exact Rem.p11 | exact Rem.p12 | exact Rem.p13) (Take.cons _ _ _ _ _ (by first | exact Rem.p0 | exact Rem.p1 | exact Rem.p2 | exact Rem.p3 | exact Rem.p4 | exact Rem.p5 | exact Rem.p6 | exact Rem.p7 | exact Rem.p8 | exact Rem.p9 | exact Rem.p10 | exact Rem.p11 | exact Rem.p12 | exact Rem.p13) (Take.cons _ _ _ _ _ (by first | exact Rem.p0 | exact Rem.p1 | exact Rem.p2 | exact Rem.p3 | exact Rem.p4 | exact Rem.p5 | exact Rem.p6 | exact Rem.p7 | exact Rem.p8 | exact Rem.p9 | exact Rem.p10 | exact Rem.p11 | exact Rem.p12 | exact Rem.p13) (Take.cons _ _ _ _ _ (by first | exact Rem.p0 | exact Rem.p1 | exact Rem.p2 | exact Rem.p3 | exact Rem.p4 | exact Rem.p5 | exact Rem.p6 | exact Rem.p7 | exact Rem.p8 | exact Rem.p9 | exact Rem.p10 | exact Rem.p11 | exact Rem.p12 | exact Rem.p13) (Take.nil _)))))) (by exact LendL.cons (by first | exact Lend.refl _ _ | exact Lend.all' (by first | exact At.p0 | exact At.p1 | exact At.p2 | exact At.p3 | exact At.p4 | exact At.p5 | exact At.p6 | exact At.p7 | exact At.p8 | exact At.p9 | exact At.p10 | exact At.p11 | exact At.p12 | exact At.p13) (by rfl) (by rfl) | exact Lend.nil | exact Lend.e0 | exact Lend.agL (by repeat (first | exact LendL.nil | refine LendL.cons (by first | exact Lend.refl _ _ | exact Lend.all' (by first | exact At.p0 | exact At.p1 | exact At.p2 | exact At.p3 | exact At.p4 | exact At.p5 | exact At.p6 | exact At.p7 | exact At.p8 | exact At.p9 | exact At.p10 | exact At.p11 | exact At.p12 | exact At.p13) (by rfl) (by rfl) | exact Lend.nil) ?_))) (LendL.cons (by first | exact Lend.refl _ _ | exact Lend.all' (by first | exact At.p0 | exact At.p1 | exact At.p2 | exact At.p3 | exact At.p4 | exact At.p5 | exact At.p6 | exact At.p7 | exact At.p8 | exact At.p9 | exact At.p10 | exact At.p11 | exact At.p12 | exact At.p13) (by rfl) (by rfl) | exact Lend.nil | exact Lend.e0 | exact Lend.agL (by repeat (first | exact LendL.nil | refine LendL.cons (by first | exact Lend.refl _ _ | exact Lend.all' (by first | exact At.p0 | exact At.p1 | exact At.p2 | exact At.p3 | exact At.p4 | exact At.p5 | exact At.p6 | exact At.p7 | exact At.p8 | exact At.p9 | exact At.p10 | exact At.p11 | exact At.p12 | exact At.p13) (by rfl) (by rfl) | exact Lend.nil) ?_))) (LendL.nil))) (rest_spec (steps.getD k 0) g.as.length hst (by omega) (by omega)) rfl) (by first | exact (Take.nil _) | exact (Take.cons _ _ _ _ _ (by first | exact Rem.p0 | exact Rem.p1 | exact Rem.p2 | exact Rem.p3 | exact Rem.p4 | exact Rem.p5 | exact Rem.p6 | exact Rem.p7 | exact Rem.p8 | exact Rem.p9 | exact Rem.p10 | exact Rem.p11 | exact Rem.p12 | exact Rem.p13) (Take.nil _)) | exact (Take.cons _ _ _ _ _ (by first | exact Rem.p0 | exact Rem.p1 | exact Rem.p2 | exact Rem.p3 | exact Rem.p4 | exact Rem.p5 | exact Rem.p6 | exact Rem.p7 | exact Rem.p8 | exact Rem.p9 | exact Rem.p10 | exact Rem.p11 | exact Rem.p12 | exact Rem.p13) (Take.cons _ _ _ _ _ (by first | exact Rem.p0 | exact Rem.p1 | exact Rem.p2 | exact Rem.p3 | exact Rem.p4 | exact Rem.p5 | exact Rem.p6 | exact Rem.p7 | exact Rem.p8 | exact Rem.p9 | exact Rem.p10 | exact Rem.p11 | exact Rem.p12 | exact Rem.p13) (Take.nil _))) | exact (Take.cons _ _ _ _ _ (by first | exact Rem.p0 | exact Rem.p1 | exact Rem.p2 | exact Rem.p3 | exact Rem.p4 | exact Rem.p5 | exact Rem.p6 | exact Rem.p7 | exact Rem.p8 | exact Rem.p9 | exact Rem.p10 | exact Rem.p11 | exact Rem.p12 | exact Rem.p13) (Take.cons _ _ _ _ _ (by first | exact Rem.p0 | exact Rem.p1 | exact Rem.p2 | exact Rem.p3 | exact Rem.p4 | exact Rem.p5 | exact Rem.p6 | exact Rem.p7 | exact Rem.p8 | exact Rem.p9 | exact Rem.p10 | exact Rem.p11 | exact Rem.p12 | exact Rem.p13) (Take.cons _ _ _ _ _ (by first | exact Rem.p0 | exact Rem.p1 | exact Rem.p2 | exact Rem.p3 | exact Rem.p4 | exact Rem.p5 | exact Rem.p6 | exact Rem.p7 | exact Rem.p8 | exact Rem.p9 | exact Rem.p10 | exact Rem.p11 | exact Rem.p12 | exact Rem.p13) (Take.nil _)))) | exact (Take.cons _ _ _ _ _ (by first | exact Rem.p0 | exact Rem.p1 | exact Rem.p2 | exact Rem.p3 | exact Rem.p4 | exact Rem.p5 | exact Rem.p6 | exact Rem.p7 | exact Rem.p8 | exact Rem.p9 | exact Rem.p10 | exact Rem.p11 | exact Rem.p12 | exact Rem.p13) (Take.cons _ _ _ _ _ (by first | exact Rem.p0 | exact Rem.p1 | exact Rem.p2 | exact Rem.p3 | exact Rem.p4 | exact Rem.p5 | exact Rem.p6 | exact Rem.p7 | exact Rem.p8 | exact Rem.p9 | exact Rem.p10 | exact Rem.p11 | exact Rem.p12 | exact Rem.p13) (Take.cons _ _ _ _ _ (by first | exact Rem.p0 | exact Rem.p1 | exact Rem.p2 | exact Rem.p3 | exact Rem.p4 | exact Rem.p5 | exact Rem.p6 | exact Rem.p7 | exact Rem.p8 | exact Rem.p9 | exact Rem.p10 | exact Rem.p11 | exact Rem.p12 | exact Rem.p13) (Take.cons _ _ _ _ _ (by first | exact Rem.p0 | exact Rem.p1 | exact Rem.p2 | exact Rem.p3 | exact Rem.p4 | exact Rem.p5 | exact Rem.p6 | exact Rem.p7 | exact Rem.p8 | exact Rem.p9 | exact Rem.p10 | exact Rem.p11 | exact Rem.p12 | exact Rem.p13) (Take.nil _)))))) (fun r H hp => ?_)
            obtain ⟨rfl, rfl⟩ := hp
            first | refine GoP.qN rfl (ps_indexAddr0N rfl rfl ?_ rfl) ?_ | refine GoP.qN rfl (ps_indexAddrRN rfl rfl ?_ rfl) ?_ | refine GoP.qN rfl (ps_indexAddr0 rfl rfl ?_ rfl) ?_ | refine GoP.qN rfl (ps_indexAddrN rfl rfl ?_ rfl) ?_ | refine GoP.qN rfl (ps_indexAddrRN rfl rfl ?_ rfl) ?_ | refine GoP.qN rfl (ps_indexAddr rfl rfl ?_ rfl) ?_ | refine GoP.qN rfl (ps_indexAddrR rfl rfl ?_ rfl) ?_
            · first | exact Nat.zero_lt_one | assumption | omega | exact InI.of (by omega) (by omega) | (simp only [ints_len, bools_len, st1_len, arcs_len, lits_len, List.length_set, List.length_append, List.length_cons, List.length_nil, List.length_replicate]; omega)
            first | refine GoP.qN rfl (ps_loadAg rfl (by first | exact At.p0 | exact At.p1 | exact At.p2 | exact At.p3 | exact At.p4 | exact At.p5 | exact At.p6 | exact At.p7 | exact At.p8 | exact At.p9 | exact At.p10 | exact At.p11 | exact At.p12 | exact At.p13) (by first | exact At.p0 | exact At.p1 | exact At.p2 | exact At.p3 | exact At.p4 | exact At.p5 | exact At.p6 | exact At.p7 | exact At.p8 | exact At.p9 | exact At.p10 | exact At.p11 | exact At.p12 | exact At.p13) ?_ rfl rfl) ?_ | refine GoP.qN rfl (ps_loadAgR rfl ?_ rfl rfl) ?_
            · first | exact Nat.zero_lt_one | assumption | omega | exact InI.of (by omega) (by omega) | (simp only [ints_len, bools_len, st1_len, arcs_len, lits_len, List.length_set, List.length_append, List.length_cons, List.length_nil, List.length_replicate]; omega)
            refine GoP.one1 rfl trivial (ef_storeAg rfl rfl (by first | exact At.p0 | exact At.p1 | exact At.p2 | exact At.p3 | exact At.p4 | exact At.p5 | exact At.p6 | exact At.p7 | exact At.p8 | exact At.p9 | exact At.p10 | exact At.p11 | exact At.p12 | exact At.p13) upd_whole Nat.zero_lt_one rfl) (by exact (Take.cons _ _ _ _ _ (by first | exact Rem.p0 | exact Rem.p1 | exact Rem.p2 | exact Rem.p3 | exact Rem.p4 | exact Rem.p5 | exact Rem.p6 | exact Rem.p7 | exact Rem.p8 | exact Rem.p9 | exact Rem.p10 | exact Rem.p11 | exact Rem.p12 | exact Rem.p13) (Take.cons _ _ _ _ _ (by first | exact Rem.p0 | exact Rem.p1 | exact Rem.p2 | exact Rem.p3 | exact Rem.p4 | exact Rem.p5 | exact Rem.p6 | exact Rem.p7 | exact Rem.p8 | exact Rem.p9 | exact Rem.p10 | exact Rem.p11 | exact Rem.p12 | exact Rem.p13) (Take.nil _)))) ?_
            refine GoP.done (GoK.le ?_ (hQ β76))
            apply Le.ofW
            · repeat (first | exact EnvLeW.nil | refine EnvLeW.cons rfl ?_ | refine EnvLeW.skip rfl ?_)
            · repeat (first | exact Tk.all _ | exact Tk.nil | refine Tk.cons (by first | exact Rem.p0 | exact Rem.p1 | exact Rem.p2 | exact Rem.p3 | exact Rem.p4 | exact Rem.p5 | exact Rem.p6 | exact Rem.p7 | exact Rem.p8 | exact Rem.p9 | exact Rem.p10 | exact Rem.p11 | exact Rem.p12 | exact Rem.p13) ?_)
          · intro β74
            refine GoK.code ?_
            refine GoC.seq ?_
            refine GoC.seq ?_
            refine GoC.region ?_
            first | refine GoO.pure (ps_fieldAddr rfl rfl) ?_ | refine GoO.pure (ps_fieldAddrR rfl rfl) ?_
            first | refine GoO.pure (ps_load rfl (by first | exact At.p0 | exact At.p1 | exact At.p2 | exact At.p3 | exact At.p4 | exact At.p5 | exact At.p6 | exact At.p7 | exact At.p8 | exact At.p9 | exact At.p10 | exact At.p11 | exact At.p12 | exact At.p13) (by first | exact At.p0 | exact At.p1 | exact At.p2 | exact At.p3 | exact At.p4 | exact At.p5 | exact At.p6 | exact At.p7 | exact At.p8 | exact At.p9 | exact At.p10 | exact At.p11 | exact At.p12 | exact At.p13) ?_ rfl rfl) ?_ | refine GoO.pure (ps_loadR rfl ?_ rfl rfl) ?_
            · first | exact Nat.zero_lt_one | assumption | omega | exact InI.of (by omega) (by omega) | (simp only [ints_len, bools_len, st1_len, arcs_len, lits_len, List.length_set, List.length_append, List.length_cons, List.length_nil, List.length_replicate]; omega)
            refine GoO.pure (ps_move rfl rfl) ?_
            first | refine GoO.pure (ps_neq rfl rfl rfl) ?_ | refine GoO.pure (ps_neqB rfl rfl rfl) ?_ | refine GoO.pure (ps_neqA rfl rfl rfl rfl) ?_
            refine GoO.nil ?_
            refine GoK.code ?_
            first | refine GoC.condD rfl (fun h85 => ?_) (fun h85 => ?_) | refine GoC.cond rfl (fun h85 => ?_) (fun h85 => ?_)
            · skip
              refine GoC.exit rfl ?_
              refine GoK.code ?_
              refine GoC.region ?_
              refine GoO.pure (ps_add rfl rfl rfl ?_) ?_
              · first | exact Nat.zero_lt_one | assumption | omega | exact InI.of (by omega) (by omega) | (simp only [ints_len, bools_len, st1_len, arcs_len, lits_len, List.length_set, List.length_append, List.length_cons, List.length_nil, List.length_replicate]; omega)
              refine GoO.pure (ps_move rfl rfl) ?_
              refine GoO.nil ?_
              refine GoK.againE (steps.length - (k + 1)) ((k + 1, _, _)) ?_ ?_ (by repeat (first | exact EnvLe.nil | refine EnvLe.cons rfl ?_)) (by repeat (first | exact Tk.all _ | exact Tk.nil | refine Tk.cons (by first | exact Rem.p0 | exact Rem.p1 | exact Rem.p2 | exact Rem.p3 | exact Rem.p4 | exact Rem.p5 | exact Rem.p6 | exact Rem.p7 | exact Rem.p8 | exact Rem.p9 | exact Rem.p10 | exact Rem.p11 | exact Rem.p12 | exact Rem.p13) ?_))
              · omega
              · first | exact ⟨rfl, hlt, by omega, by omega, ha0, ha1, hkn, hfa⟩ | (have e : (g.as.getD (steps.getD k 0 % (g.as.length : Int)).toNat ⟨0, 0, 0⟩).f = at_ := (by omega); obtain ⟨k1, k2⟩ := har (by rw [e]; exact hkn); rw [e] at k2; exact ⟨rfl, hlt, by omega, by omega, a3, a4, k1, by omega⟩)
            · skip
              refine GoC.skip ?_
              refine GoK.code ?_
              refine GoC.seq ?_
              refine GoC.drawA (.q 0 (.q 1 (.q 2 (.q 3 (.q 4 (.q 5 (.q 6 (.q 7 (.done))))))))) follows (by kernel_rfl) ?_
              first | refine GoP.qN rfl (ps_fieldAddr rfl rfl) ?_ | refine GoP.qN rfl (ps_fieldAddrR rfl rfl) ?_
              first | refine GoP.qN rfl (ps_load rfl (by first | exact At.p0 | exact At.p1 | exact At.p2 | exact At.p3 | exact At.p4 | exact At.p5 | exact At.p6 | exact At.p7 | exact At.p8 | exact At.p9 | exact At.p10 | exact At.p11 | exact At.p12 | exact At.p13) (by first | exact At.p0 | exact At.p1 | exact At.p2 | exact At.p3 | exact At.p4 | exact At.p5 | exact At.p6 | exact At.p7 | exact At.p8 | exact At.p9 | exact At.p10 | exact At.p11 | exact At.p12 | exact At.p13) ?_ rfl rfl) ?_ | refine GoP.qN rfl (ps_loadR rfl ?_ rfl rfl) ?_
              · first | exact Nat.zero_lt_one | assumption | omega | exact InI.of (by omega) (by omega) | (simp only [ints_len, bools_len, st1_len, arcs_len, lits_len, List.length_set, List.length_append, List.length_cons, List.length_nil, List.length_replicate]; omega)
              refine GoP.qN rfl (ps_move rfl rfl) ?_
              first | refine GoP.qN rfl (ps_fieldAddr rfl rfl) ?_ | refine GoP.qN rfl (ps_fieldAddrR rfl rfl) ?_
              first | refine GoP.qN rfl (ps_load rfl (by first | exact At.p0 | exact At.p1 | exact At.p2 | exact At.p3 | exact At.p4 | exact At.p5 | exact At.p6 | exact At.p7 | exact At.p8 | exact At.p9 | exact At.p10 | exact At.p11 | exact At.p12 | exact At.p13) (by first | exact At.p0 | exact At.p1 | exact At.p2 | exact At.p3 | exact At.p4 | exact At.p5 | exact At.p6 | exact At.p7 | exact At.p8 | exact At.p9 | exact At.p10 | exact At.p11 | exact At.p12 | exact At.p13) ?_ rfl rfl) ?_ | refine GoP.qN rfl (ps_loadR rfl ?_ rfl rfl) ?_
              · first | exact Nat.zero_lt_one | assumption | omega | exact InI.of (by omega) (by omega) | (simp only [ints_len, bools_len, st1_len, arcs_len, lits_len, List.length_set, List.length_append, List.length_cons, List.length_nil, List.length_replicate]; omega)
              refine GoP.qN rfl (ps_add rfl rfl rfl ?_) ?_
              · first | exact Nat.zero_lt_one | assumption | omega | exact InI.of (by omega) (by omega) | (simp only [ints_len, bools_len, st1_len, arcs_len, lits_len, List.length_set, List.length_append, List.length_cons, List.length_nil, List.length_replicate]; omega)
              refine GoP.qN rfl (ps_assign rfl rfl) ?_
              refine GoP.qN rfl (ps_assign rfl rfl) ?_
              refine GoP.done ?_
              refine GoK.code ?_
              refine GoC.seq ?_
              refine GoC.region ?_
              refine GoO.pure (ps_move rfl rfl) ?_
              refine GoO.pure (ps_len rfl (by constructor) rfl) ?_
              first | refine GoO.pure (ps_fieldAddr rfl rfl) ?_ | refine GoO.pure (ps_fieldAddrR rfl rfl) ?_
              first | refine GoO.pure (ps_load rfl (by first | exact At.p0 | exact At.p1 | exact At.p2 | exact At.p3 | exact At.p4 | exact At.p5 | exact At.p6 | exact At.p7 | exact At.p8 | exact At.p9 | exact At.p10 | exact At.p11 | exact At.p12 | exact At.p13) (by first | exact At.p0 | exact At.p1 | exact At.p2 | exact At.p3 | exact At.p4 | exact At.p5 | exact At.p6 | exact At.p7 | exact At.p8 | exact At.p9 | exact At.p10 | exact At.p11 | exact At.p12 | exact At.p13) ?_ rfl rfl) ?_ | refine GoO.pure (ps_loadR rfl ?_ rfl rfl) ?_
              · first | exact Nat.zero_lt_one | assumption | omega | exact InI.of (by omega) (by omega) | (simp only [ints_len, bools_len, st1_len, arcs_len, lits_len, List.length_set, List.length_append, List.length_cons, List.length_nil, List.length_replicate]; omega)
              first | refine GoO.pure (ps_neq rfl rfl rfl) ?_ | refine GoO.pure (ps_neqB rfl rfl rfl) ?_ | refine GoO.pure (ps_neqA rfl rfl rfl rfl) ?_
              refine GoO.pure (ps_move rfl rfl) ?_
              first | refine GoO.guardE rfl rfl rfl rfl (fun h102 => ?_) (fun h102 => ?_) | refine GoO.guard rfl rfl rfl rfl (fun h102 => ?_) (fun h102 => ?_)
              · skip
                refine GoO.pure (ps_move rfl rfl) ?_
                refine GoO.guardT rfl rfl rfl ?_
                refine GoO.pure (ps_len rfl (by constructor) rfl) ?_
                refine GoO.guardT rfl rfl rfl ?_
                first | refine GoO.pure (ps_fieldAddr rfl rfl) ?_ | refine GoO.pure (ps_fieldAddrR rfl rfl) ?_
                refine GoO.guardT rfl rfl rfl ?_
                first | refine GoO.pure (ps_load rfl (by first | exact At.p0 | exact At.p1 | exact At.p2 | exact At.p3 | exact At.p4 | exact At.p5 | exact At.p6 | exact At.p7 | exact At.p8 | exact At.p9 | exact At.p10 | exact At.p11 | exact At.p12 | exact At.p13) (by first | exact At.p0 | exact At.p1 | exact At.p2 | exact At.p3 | exact At.p4 | exact At.p5 | exact At.p6 | exact At.p7 | exact At.p8 | exact At.p9 | exact At.p10 | exact At.p11 | exact At.p12 | exact At.p13) ?_ rfl rfl) ?_ | refine GoO.pure (ps_loadR rfl ?_ rfl rfl) ?_
                · first | exact Nat.zero_lt_one | assumption | omega | exact InI.of (by omega) (by omega) | (simp only [ints_len, bools_len, st1_len, arcs_len, lits_len, List.length_set, List.length_append, List.length_cons, List.length_nil, List.length_replicate]; omega)
                refine GoO.guardT rfl rfl rfl ?_
                first | refine GoO.pure (ps_neq rfl rfl rfl) ?_ | refine GoO.pure (ps_neqB rfl rfl rfl) ?_ | refine GoO.pure (ps_neqA rfl rfl rfl rfl) ?_
                refine GoO.pure (ps_pickF rfl rfl rfl) ?_
                refine GoO.pure (ps_move rfl rfl) ?_
                first | refine GoO.guardE rfl rfl rfl rfl (fun h110 => ?_) (fun h110 => ?_) | refine GoO.guard rfl rfl rfl rfl (fun h110 => ?_) (fun h110 => ?_)
                · skip
                  refine GoO.pure (ps_move rfl rfl) ?_
                  refine GoO.guardT rfl rfl rfl ?_
                  refine GoO.pure (ps_move rfl rfl) ?_
                  refine GoO.guardT rfl rfl rfl ?_
                  first | refine GoO.pure (ps_indexAddr0N rfl rfl ?_ rfl) ?_ | refine GoO.pure (ps_indexAddrRN rfl rfl ?_ rfl) ?_ | refine GoO.pure (ps_indexAddr0 rfl rfl ?_ rfl) ?_ | refine GoO.pure (ps_indexAddrN rfl rfl ?_ rfl) ?_ | refine GoO.pure (ps_indexAddrRN rfl rfl ?_ rfl) ?_ | refine GoO.pure (ps_indexAddr rfl rfl ?_ rfl) ?_ | refine GoO.pure (ps_indexAddrR rfl rfl ?_ rfl) ?_
                  · first | exact Nat.zero_lt_one | assumption | omega | exact InI.of (by omega) (by omega) | (simp only [ints_len, bools_len, st1_len, arcs_len, lits_len, List.length_set, List.length_append, List.length_cons, List.length_nil, List.length_replicate]; omega)
                  refine GoO.guardT rfl rfl rfl ?_
                  first | refine GoO.pure (ps_load rfl (by first | exact At.p0 | exact At.p1 | exact At.p2 | exact At.p3 | exact At.p4 | exact At.p5 | exact At.p6 | exact At.p7 | exact At.p8 | exact At.p9 | exact At.p10 | exact At.p11 | exact At.p12 | exact At.p13) (by first | exact At.p0 | exact At.p1 | exact At.p2 | exact At.p3 | exact At.p4 | exact At.p5 | exact At.p6 | exact At.p7 | exact At.p8 | exact At.p9 | exact At.p10 | exact At.p11 | exact At.p12 | exact At.p13) ?_ rfl rfl) ?_ | refine GoO.pure (ps_loadR rfl ?_ rfl rfl) ?_
                  · first | exact Nat.zero_lt_one | assumption | omega | exact InI.of (by omega) (by omega) | (simp only [ints_len, bools_len, st1_len, arcs_len, lits_len, List.length_set, List.length_append, List.length_cons, List.length_nil, List.length_replicate]; omega)
                  refine GoO.guardT rfl rfl rfl ?_
                  first | refine GoO.pure (ps_notD rfl rfl) ?_ | refine GoO.pure (ps_not rfl rfl) ?_
                  refine GoO.pure (ps_pickF rfl rfl rfl) ?_
                  refine GoO.pure (ps_move rfl rfl) ?_
                  first | refine GoO.guardE rfl rfl rfl rfl (fun h118 => ?_) (fun h118 => ?_) | refine GoO.guard rfl rfl rfl rfl (fun h118 => ?_) (fun h118 => ?_)
                  · skip
                    refine GoO.pure (ps_move rfl rfl) ?_
                    refine GoO.guardT rfl rfl rfl ?_
                    refine GoO.pure (ps_move rfl rfl) ?_
                    refine GoO.guardT rfl rfl rfl ?_
                    first | refine GoO.pure (ps_indexAddr0N rfl rfl ?_ rfl) ?_ | refine GoO.pure (ps_indexAddrRN rfl rfl ?_ rfl) ?_ | refine GoO.pure (ps_indexAddr0 rfl rfl ?_ rfl) ?_ | refine GoO.pure (ps_indexAddrN rfl rfl ?_ rfl) ?_ | refine GoO.pure (ps_indexAddrRN rfl rfl ?_ rfl) ?_ | refine GoO.pure (ps_indexAddr rfl rfl ?_ rfl) ?_ | refine GoO.pure (ps_indexAddrR rfl rfl ?_ rfl) ?_
                    · first | exact Nat.zero_lt_one | assumption | omega | exact InI.of (by omega) (by omega) | (simp only [ints_len, bools_len, st1_len, arcs_len, lits_len, List.length_set, List.length_append, List.length_cons, List.length_nil, List.length_replicate]; omega)
                    refine GoO.guardT rfl rfl rfl ?_
                    first | refine GoO.pure (ps_load rfl (by first | exact At.p0 | exact At.p1 | exact At.p2 | exact At.p3 | exact At.p4 | exact At.p5 | exact At.p6 | exact At.p7 | exact At.p8 | exact At.p9 | exact At.p10 | exact At.p11 | exact At.p12 | exact At.p13) (by first | exact At.p0 | exact At.p1 | exact At.p2 | exact At.p3 | exact At.p4 | exact At.p5 | exact At.p6 | exact At.p7 | exact At.p8 | exact At.p9 | exact At.p10 | exact At.p11 | exact At.p12 | exact At.p13) ?_ rfl rfl) ?_ | refine GoO.pure (ps_loadR rfl ?_ rfl rfl) ?_
                    · first | exact Nat.zero_lt_one | assumption | omega | exact InI.of (by omega) (by omega) | (simp only [ints_len, bools_len, st1_len, arcs_len, lits_len, List.length_set, List.length_append, List.length_cons, List.length_nil, List.length_replicate]; omega)
                    refine GoO.guardT rfl rfl rfl ?_
                    refine GoO.pure (ps_move rfl rfl) ?_
                    refine GoO.guardT rfl rfl rfl ?_
                    refine GoO.pure (ps_gtr rfl rfl rfl) ?_
                    refine GoO.pure (ps_pickF rfl rfl rfl) ?_
                    refine GoO.nil ?_
                    refine GoK.code ?_
                    first | refine GoC.condD rfl (fun h126 => ?_) (fun h126 => ?_) | refine GoC.cond rfl (fun h126 => ?_) (fun h126 => ?_)
                    · skip
                      refine GoC.seq ?_
                      refine GoC.region ?_
                      refine GoO.pure (ps_assign rfl rfl) ?_
                      refine GoO.nil ?_
                      refine GoK.code ?_
                      refine GoC.ret1 (H' := []) Try.results5 (ResD.tmp rfl) (by exact (Take.nil _)) ?_
                      · exfalso; have e : (g.as.getD (steps.getD k 0 % (g.as.length : Int)).toNat ⟨0, 0, 0⟩).f = at_ := (by omega); obtain ⟨k1, k2⟩ := har (by rw [e]; exact hkn); rw [e] at k2; first | omega | simp_all
                    · skip
                      refine GoC.skip ?_
                      refine GoK.blk ?_
                      refine GoK.code ?_
                      refine GoC.region ?_
                      refine GoO.pure (ps_add rfl rfl rfl ?_) ?_
                      · first | exact Nat.zero_lt_one | assumption | omega | exact InI.of (by omega) (by omega) | (simp only [ints_len, bools_len, st1_len, arcs_len, lits_len, List.length_set, List.length_append, List.length_cons, List.length_nil, List.length_replicate]; omega)
                      refine GoO.pure (ps_move rfl rfl) ?_
                      refine GoO.nil ?_
                      refine GoK.againE (steps.length - (k + 1)) ((k + 1, _, _)) ?_ ?_ (by repeat (first | exact EnvLe.nil | refine EnvLe.cons rfl ?_)) (by repeat (first | exact Tk.all _ | exact Tk.nil | refine Tk.cons (by first | exact Rem.p0 | exact Rem.p1 | exact Rem.p2 | exact Rem.p3 | exact Rem.p4 | exact Rem.p5 | exact Rem.p6 | exact Rem.p7 | exact Rem.p8 | exact Rem.p9 | exact Rem.p10 | exact Rem.p11 | exact Rem.p12 | exact Rem.p13) ?_))
                      · omega
                      · first | exact ⟨rfl, hlt, by omega, by omega, ha0, ha1, hkn, hfa⟩ | (have e : (g.as.getD (steps.getD k 0 % (g.as.length : Int)).toNat ⟨0, 0, 0⟩).f = at_ := (by omega); obtain ⟨k1, k2⟩ := har (by rw [e]; exact hkn); rw [e] at k2; exact ⟨rfl, hlt, by omega, by omega, a3, a4, k1, by omega⟩)
                  · skip
                    refine GoO.guardF rfl rfl rfl rfl ?_
                    refine GoO.guardF rfl rfl rfl rfl ?_
                    refine GoO.guardF rfl rfl rfl rfl ?_
                    refine GoO.guardF rfl rfl rfl rfl ?_
                    refine GoO.guardF rfl rfl rfl rfl ?_
                    refine GoO.pure (ps_pickT rfl rfl rfl) ?_
                    refine GoO.nil ?_
                    refine GoK.code ?_
                    refine GoC.condT rfl ?_
                    refine GoC.seq ?_
                    refine GoC.region ?_
                    refine GoO.pure (ps_assign rfl rfl) ?_
                    refine GoO.nil ?_
                    refine GoK.code ?_
                    refine GoC.ret1 (H' := []) Try.results5 (ResD.tmp rfl) (by exact (Take.nil _)) ?_
                    · exfalso; have e : (g.as.getD (steps.getD k 0 % (g.as.length : Int)).toNat ⟨0, 0, 0⟩).f = at_ := (by omega); obtain ⟨k1, k2⟩ := har (by rw [e]; exact hkn); rw [e] at k2; first | omega | simp_all
                · skip
                  refine GoO.guardF rfl rfl rfl rfl ?_
                  refine GoO.guardF rfl rfl rfl rfl ?_
                  refine GoO.guardF rfl rfl rfl rfl ?_
                  refine GoO.guardF rfl rfl rfl rfl ?_
                  refine GoO.pure (ps_pickT rfl rfl rfl) ?_
                  refine GoO.pure (ps_move rfl rfl) ?_
                  refine GoO.guardF rfl rfl rfl rfl ?_
                  refine GoO.guardF rfl rfl rfl rfl ?_
                  refine GoO.guardF rfl rfl rfl rfl ?_
                  refine GoO.guardF rfl rfl rfl rfl ?_
                  refine GoO.guardF rfl rfl rfl rfl ?_
                  refine GoO.guardF rfl rfl rfl rfl ?_
                  refine GoO.pure (ps_pickT rfl rfl rfl) ?_
                  refine GoO.nil ?_
                  refine GoK.code ?_
                  refine GoC.condT rfl ?_
                  refine GoC.seq ?_
                  refine GoC.region ?_
                  refine GoO.pure (ps_assign rfl rfl) ?_
                  refine GoO.nil ?_
                  refine GoK.code ?_
                  refine GoC.ret1 (H' := []) Try.results5 (ResD.tmp rfl) (by exact (Take.nil _)) ?_
                  · exfalso; have e : (g.as.getD (steps.getD k 0 % (g.as.length : Int)).toNat ⟨0, 0, 0⟩).f = at_ := (by omega); obtain ⟨k1, k2⟩ := har (by rw [e]; exact hkn); rw [e] at k2; first | omega | simp_all
              · skip
                refine GoO.guardF rfl rfl rfl rfl ?_
                refine GoO.guardF rfl rfl rfl rfl ?_
                refine GoO.guardF rfl rfl rfl rfl ?_
                refine GoO.guardF rfl rfl rfl rfl ?_
                refine GoO.pure (ps_pickT rfl rfl rfl) ?_
                refine GoO.pure (ps_move rfl rfl) ?_
                refine GoO.guardF rfl rfl rfl rfl ?_
                refine GoO.guardF rfl rfl rfl rfl ?_
                refine GoO.guardF rfl rfl rfl rfl ?_
                refine GoO.guardF rfl rfl rfl rfl ?_
                refine GoO.guardF rfl rfl rfl rfl ?_
                refine GoO.pure (ps_pickT rfl rfl rfl) ?_
                refine GoO.pure (ps_move rfl rfl) ?_
                refine GoO.guardF rfl rfl rfl rfl ?_
                refine GoO.guardF rfl rfl rfl rfl ?_
                refine GoO.guardF rfl rfl rfl rfl ?_
                refine GoO.guardF rfl rfl rfl rfl ?_
                refine GoO.guardF rfl rfl rfl rfl ?_
                refine GoO.guardF rfl rfl rfl rfl ?_
                refine GoO.pure (ps_pickT rfl rfl rfl) ?_
                refine GoO.nil ?_
                refine GoK.code ?_
                refine GoC.condT rfl ?_
                refine GoC.seq ?_
                refine GoC.region ?_
                refine GoO.pure (ps_assign rfl rfl) ?_
                refine GoO.nil ?_
                refine GoK.code ?_
                refine GoC.ret1 (H' := []) Try.results5 (ResD.tmp rfl) (by exact (Take.nil _)) ?_
                · exfalso; have e : (g.as.getD (steps.getD k 0 % (g.as.length : Int)).toNat ⟨0, 0, 0⟩).f = at_ := (by omega); obtain ⟨k1, k2⟩ := har (by rw [e]; exact hkn); rw [e] at k2; first | omega | simp_all
        · skip
          refine GoC.exit rfl ?_
          refine GoK.code ?_
          refine GoC.seq ?_
          refine GoC.region ?_
          refine GoO.pure (ps_assign rfl rfl) ?_
          refine GoO.nil ?_
          refine GoK.code ?_
          refine GoC.ret1 (H' := []) Try.results5 (ResD.tmp rfl) (by exact (Take.nil _)) ?_
          · exact ⟨rfl, rfl⟩
    · skip
      refine GoO.guardF rfl rfl rfl rfl ?_
      refine GoO.guardF rfl rfl rfl rfl ?_
      refine GoO.pure (ps_pickT rfl rfl rfl) ?_
      refine GoO.nil ?_
      refine GoK.code ?_
      refine GoC.condT rfl ?_
      refine GoC.seq ?_
      refine GoC.region ?_
      refine GoO.pure (ps_move rfl rfl) ?_
      first | refine GoO.pure (ps_neq rfl rfl rfl) ?_ | refine GoO.pure (ps_neqB rfl rfl rfl) ?_ | refine GoO.pure (ps_neqA rfl rfl rfl rfl) ?_
      refine GoO.pure (ps_move rfl rfl) ?_
      first | refine GoO.guardE rfl rfl rfl rfl (fun h147 => ?_) (fun h147 => ?_) | refine GoO.guard rfl rfl rfl rfl (fun h147 => ?_) (fun h147 => ?_)
      · skip
        refine GoO.pure (ps_move rfl rfl) ?_
        refine GoO.guardT rfl rfl rfl ?_
        refine GoO.pure (ps_len rfl (by constructor) rfl) ?_
        refine GoO.guardT rfl rfl rfl ?_
        first | refine GoO.pure (ps_fieldAddr rfl rfl) ?_ | refine GoO.pure (ps_fieldAddrR rfl rfl) ?_
        refine GoO.guardT rfl rfl rfl ?_
        first | refine GoO.pure (ps_load rfl (by first | exact At.p0 | exact At.p1 | exact At.p2 | exact At.p3 | exact At.p4 | exact At.p5 | exact At.p6 | exact At.p7 | exact At.p8 | exact At.p9 | exact At.p10 | exact At.p11 | exact At.p12 | exact At.p13) (by first | exact At.p0 | exact At.p1 | exact At.p2 | exact At.p3 | exact At.p4 | exact At.p5 | exact At.p6 | exact At.p7 | exact At.p8 | exact At.p9 | exact At.p10 | exact At.p11 | exact At.p12 | exact At.p13) ?_ rfl rfl) ?_ | refine GoO.pure (ps_loadR rfl ?_ rfl rfl) ?_
        · first | exact Nat.zero_lt_one | assumption | omega | exact InI.of (by omega) (by omega) | (simp only [ints_len, bools_len, st1_len, arcs_len, lits_len, List.length_set, List.length_append, List.length_cons, List.length_nil, List.length_replicate]; omega)
        refine GoO.guardT rfl rfl rfl ?_
        first | refine GoO.pure (ps_eql rfl rfl rfl) ?_ | refine GoO.pure (ps_eqlB rfl rfl rfl) ?_ | refine GoO.pure (ps_eqlA rfl rfl rfl rfl) ?_
        refine GoO.pure (ps_pickF rfl rfl rfl) ?_
        refine GoO.pure (ps_move rfl rfl) ?_
        first | refine GoO.guardE rfl rfl rfl rfl (fun h155 => ?_) (fun h155 => ?_) | refine GoO.guard rfl rfl rfl rfl (fun h155 => ?_) (fun h155 => ?_)
        · skip
          refine GoO.pure (ps_move rfl rfl) ?_
          refine GoO.guardT rfl rfl rfl ?_
          refine GoO.pure (ps_len rfl (by constructor) rfl) ?_
          refine GoO.guardT rfl rfl rfl ?_
          refine GoO.pure (ps_gtr rfl rfl rfl) ?_
          refine GoO.pure (ps_pickF rfl rfl rfl) ?_
          refine GoO.pure (ps_assign rfl rfl) ?_
          refine GoO.nil ?_
          refine GoK.code ?_
          refine GoC.ret1 (H' := []) Try.results5 (ResD.tmp rfl) (by exact (Take.nil _)) ?_
          · refine ⟨?_, rfl⟩; first | rfl | exact bo_true (by omega) | (have hf := from_ok (Classical.not_not.1 ‹¬ (fromF g s).1 ≠ 0›); have := hf.l1; have := hf.ok.n0; omega)
        · skip
          refine GoO.guardF rfl rfl rfl rfl ?_
          refine GoO.guardF rfl rfl rfl rfl ?_
          refine GoO.pure (ps_pickT rfl rfl rfl) ?_
          refine GoO.pure (ps_assign rfl rfl) ?_
          refine GoO.nil ?_
          refine GoK.code ?_
          refine GoC.ret1 (H' := []) Try.results5 (ResD.tmp rfl) (by exact (Take.nil _)) ?_
          · refine ⟨?_, rfl⟩; first | rfl | exact bo_true (by omega) | (have hf := from_ok (Classical.not_not.1 ‹¬ (fromF g s).1 ≠ 0›); have := hf.l1; have := hf.ok.n0; omega)
      · skip
        refine GoO.guardF rfl rfl rfl rfl ?_
        refine GoO.guardF rfl rfl rfl rfl ?_
        refine GoO.guardF rfl rfl rfl rfl ?_
        refine GoO.guardF rfl rfl rfl rfl ?_
        refine GoO.pure (ps_pickT rfl rfl rfl) ?_
        refine GoO.pure (ps_move rfl rfl) ?_
        refine GoO.guardF rfl rfl rfl rfl ?_
        refine GoO.guardF rfl rfl rfl rfl ?_
        refine GoO.guardF rfl rfl rfl rfl ?_
        refine GoO.pure (ps_pickT rfl rfl rfl) ?_
        refine GoO.pure (ps_assign rfl rfl) ?_
        refine GoO.nil ?_
        refine GoK.code ?_
        refine GoC.ret1 (H' := []) Try.results5 (ResD.tmp rfl) (by exact (Take.nil _)) ?_
        · refine ⟨?_, rfl⟩; first | rfl | exact bo_true (by omega) | (have hf := from_ok (Classical.not_not.1 ‹¬ (fromF g s).1 ≠ 0›); have := hf.l1; have := hf.ok.n0; omega)
  · skip
    refine GoO.guardF rfl rfl rfl rfl ?_
    refine GoO.guardF rfl rfl rfl rfl ?_
    refine GoO.guardF rfl rfl rfl rfl ?_
    refine GoO.pure (ps_pickT rfl rfl rfl) ?_
    refine GoO.pure (ps_move rfl rfl) ?_
    refine GoO.guardF rfl rfl rfl rfl ?_
    refine GoO.guardF rfl rfl rfl rfl ?_
    refine GoO.guardF rfl rfl rfl rfl ?_
    refine GoO.pure (ps_pickT rfl rfl rfl) ?_
    refine GoO.nil ?_
    refine GoK.code ?_
    refine GoC.condT rfl ?_
    refine GoC.seq ?_
    refine GoC.region ?_
    refine GoO.pure (ps_move rfl rfl) ?_
    first | refine GoO.pure (ps_neq rfl rfl rfl) ?_ | refine GoO.pure (ps_neqB rfl rfl rfl) ?_ | refine GoO.pure (ps_neqA rfl rfl rfl rfl) ?_
    refine GoO.pure (ps_move rfl rfl) ?_
    first | refine GoO.guardE rfl rfl rfl rfl (fun h173 => ?_) (fun h173 => ?_) | refine GoO.guard rfl rfl rfl rfl (fun h173 => ?_) (fun h173 => ?_)
    · skip
      refine GoO.pure (ps_move rfl rfl) ?_
      refine GoO.guardT rfl rfl rfl ?_
      refine GoO.pure (ps_len rfl (by constructor) rfl) ?_
      refine GoO.guardT rfl rfl rfl ?_
      first | refine GoO.pure (ps_fieldAddr rfl rfl) ?_ | refine GoO.pure (ps_fieldAddrR rfl rfl) ?_
      refine GoO.guardT rfl rfl rfl ?_
      first | refine GoO.pure (ps_load rfl (by first | exact At.p0 | exact At.p1 | exact At.p2 | exact At.p3 | exact At.p4 | exact At.p5 | exact At.p6 | exact At.p7 | exact At.p8 | exact At.p9 | exact At.p10 | exact At.p11 | exact At.p12 | exact At.p13) (by first | exact At.p0 | exact At.p1 | exact At.p2 | exact At.p3 | exact At.p4 | exact At.p5 | exact At.p6 | exact At.p7 | exact At.p8 | exact At.p9 | exact At.p10 | exact At.p11 | exact At.p12 | exact At.p13) ?_ rfl rfl) ?_ | refine GoO.pure (ps_loadR rfl ?_ rfl rfl) ?_
      · first | exact Nat.zero_lt_one | assumption | omega | exact InI.of (by omega) (by omega) | (simp only [ints_len, bools_len, st1_len, arcs_len, lits_len, List.length_set, List.length_append, List.length_cons, List.length_nil, List.length_replicate]; omega)
      refine GoO.guardT rfl rfl rfl ?_
      first | refine GoO.pure (ps_eql rfl rfl rfl) ?_ | refine GoO.pure (ps_eqlB rfl rfl rfl) ?_ | refine GoO.pure (ps_eqlA rfl rfl rfl rfl) ?_
      refine GoO.pure (ps_pickF rfl rfl rfl) ?_
      refine GoO.pure (ps_move rfl rfl) ?_
      first | refine GoO.guardE rfl rfl rfl rfl (fun h181 => ?_) (fun h181 => ?_) | refine GoO.guard rfl rfl rfl rfl (fun h181 => ?_) (fun h181 => ?_)
      · skip
        refine GoO.pure (ps_move rfl rfl) ?_
        refine GoO.guardT rfl rfl rfl ?_
        refine GoO.pure (ps_len rfl (by constructor) rfl) ?_
        refine GoO.guardT rfl rfl rfl ?_
        refine GoO.pure (ps_gtr rfl rfl rfl) ?_
        refine GoO.pure (ps_pickF rfl rfl rfl) ?_
        refine GoO.pure (ps_assign rfl rfl) ?_
        refine GoO.nil ?_
        refine GoK.code ?_
        refine GoC.ret1 (H' := []) Try.results5 (ResD.tmp rfl) (by exact (Take.nil _)) ?_
        · refine ⟨?_, rfl⟩; first | rfl | exact bo_true (by omega) | (have hf := from_ok (Classical.not_not.1 ‹¬ (fromF g s).1 ≠ 0›); have := hf.l1; have := hf.ok.n0; omega)
      · skip
        refine GoO.guardF rfl rfl rfl rfl ?_
        refine GoO.guardF rfl rfl rfl rfl ?_
        refine GoO.pure (ps_pickT rfl rfl rfl) ?_
        refine GoO.pure (ps_assign rfl rfl) ?_
        refine GoO.nil ?_
        refine GoK.code ?_
        refine GoC.ret1 (H' := []) Try.results5 (ResD.tmp rfl) (by exact (Take.nil _)) ?_
        · refine ⟨?_, rfl⟩; first | rfl | exact bo_true (by omega) | (have hf := from_ok (Classical.not_not.1 ‹¬ (fromF g s).1 ≠ 0›); have := hf.l1; have := hf.ok.n0; omega)
    · skip
      refine GoO.guardF rfl rfl rfl rfl ?_
      refine GoO.guardF rfl rfl rfl rfl ?_
      refine GoO.guardF rfl rfl rfl rfl ?_
      refine GoO.guardF rfl rfl rfl rfl ?_
      refine GoO.pure (ps_pickT rfl rfl rfl) ?_
      refine GoO.pure (ps_move rfl rfl) ?_
      refine GoO.guardF rfl rfl rfl rfl ?_
      refine GoO.guardF rfl rfl rfl rfl ?_
      refine GoO.guardF rfl rfl rfl rfl ?_
      refine GoO.pure (ps_pickT rfl rfl rfl) ?_
      refine GoO.pure (ps_assign rfl rfl) ?_
      refine GoO.nil ?_
      refine GoK.code ?_
      refine GoC.ret1 (H' := []) Try.results5 (ResD.tmp rfl) (by exact (Take.nil _)) ?_
      · refine ⟨?_, rfl⟩; first | rfl | exact bo_true (by omega) | (have hf := from_ok (Classical.not_not.1 ‹¬ (fromF g s).1 ≠ 0›); have := hf.l1; have := hf.ok.n0; omega)

end Go.Proofs.Ytmgldjkgneiejaa
