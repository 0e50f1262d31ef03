/- What the functions of wsteps compute, by walks through their text. -/
import Derived.Test.YtmgldjkgneiejaaTys
import Derived.Test.YtmgldjkgneiejaaDat
import Derived.Test.YtmgldjkgneiejaaKeep2
import Derived.Test.YtmgldjkgneiejaaWLaw
import Derived.Test.YtmgldjkgneiejaaFrame
namespace Go.Proofs.Ytmgldjkgneiejaa
open Go Go.Proofs.Ytmgldjkgneiejaa.Sx
set_option linter.unusedVariables false
set_option linter.unusedSimpArgs false

structure HitW (g : Graph) (s : Int) (far : List Int) (k : Nat) (hit : List Bool) : Prop where
  le : k ≤ g.as.length
  l : hit.length = g.n.toNat
  s0 : hit.getD s.toNat false = true
  on : ∀ j, j < k → (0 ≤ at0 far (g.as.getD j ⟨0, 0, 0⟩).f ∧ at0 far (g.as.getD j ⟨0, 0, 0⟩).t = at0 far (g.as.getD j ⟨0, 0, 0⟩).f + 1) → hit.getD (g.as.getD j ⟨0, 0, 0⟩).t.toNat false = true
theorem HitW.step {g : Graph} {s : Int} {far : List Int} {k : Nat} {hit : List Bool} {b : Bool} (h : HitW g s far k hit) (hk : k < g.as.length)
    (hb : hit.getD (g.as.getD k ⟨0, 0, 0⟩).t.toNat false = true ∨ (0 ≤ at0 far (g.as.getD k ⟨0, 0, 0⟩).f ∧ at0 far (g.as.getD k ⟨0, 0, 0⟩).t = at0 far (g.as.getD k ⟨0, 0, 0⟩).f + 1) → b = true) (ht : (g.as.getD k ⟨0, 0, 0⟩).t.toNat < hit.length) :
    HitW g s far (k + 1) (hit.set (g.as.getD k ⟨0, 0, 0⟩).t.toNat b) := by
  have keep : ∀ i, hit.getD i false = true → (hit.set (g.as.getD k ⟨0, 0, 0⟩).t.toNat b).getD i false = true := fun i hi => by
    rw [getD_set]; split
    · rename_i e
      exact hb (.inl (by rw [e.1]; exact hi))
    · exact hi
  refine ⟨hk, by simpa using h.l, keep _ h.s0, fun j hj hjt => ?_⟩
  by_cases e : j = k
  · subst e
    rw [getD_set, if_pos ⟨rfl, ht⟩]
    exact hb (.inr hjt)
  · exact keep _ (h.on j (by omega) hjt)
theorem hitw_all {g : Graph} {s : Int} {far by_ : List Int} {hit : List Bool} (hf : FarOk g s far by_) (h : HitW g s far g.as.length hit) {i : Nat} (hi : i < g.n.toNat) (hp : 0 < far.getD i 0) : hit.getD i false = true := by
  obtain ⟨j, hj, _, ht, h4, h5⟩ := hf.pre (i : Int) (by omega) (by omega) (by simpa using hp)
  have := h.on j hj ⟨h4, by rw [ht]; exact h5⟩
  rw [ht] at this
  simpa using this
set_option maxRecDepth 100000 in
set_option maxHeartbeats 400000 in
theorem walkSteps_spec (g : Graph) (s : Int) (_ : GIn g) (hs : InI s) : Does Try.prog 8 [graphD g, .i s] [] (fun d H => d = .bo true ∧ H = []) := by
  refine Does.intro Try.func8 rfl Try.ntmps8 rfl fun w0 I0 => ?_
  refine GoC.seq ?_
  refine GoC.region ?_
  refine GoO.effB (ef_boxAg rfl rfl) (fun β1 => ?_)
  refine GoO.pure (ps_assign rfl rfl) ?_
  refine GoO.nil ?_
  refine GoK.code ?_
  refine GoC.seq ?_
  refine GoC.seq ?_
  refine GoC.region ?_
  refine GoO.effC (ef_call rfl (by first | exact (Take.nil _) | exact (Take.cons _ _ _ _ _ (by first | exact Rem.p0 | exact Rem.p1 | exact Rem.p2 | exact Rem.p3 | exact Rem.p4 | exact Rem.p5 | exact Rem.p6 | exact Rem.p7 | exact Rem.p8 | exact Rem.p9 | exact Rem.p10 | exact Rem.p11 | exact Rem.p12 | exact Rem.p13) (Take.nil _)) | exact (Take.cons _ _ _ _ _ (by first | exact Rem.p0 | exact Rem.p1 | exact Rem.p2 | exact Rem.p3 | exact Rem.p4 | exact Rem.p5 | exact Rem.p6 | exact Rem.p7 | exact Rem.p8 | exact Rem.p9 | exact Rem.p10 | exact Rem.p11 | exact Rem.p12 | exact Rem.p13) (Take.cons _ _ _ _ _ (by first | exact Rem.p0 | exact Rem.p1 | exact Rem.p2 | exact Rem.p3 | exact Rem.p4 | exact Rem.p5 | exact Rem.p6 | exact Rem.p7 | exact Rem.p8 | exact Rem.p9 | exact Rem.p10 | exact Rem.p11 | exact Rem.p12 | exact Rem.p13) (Take.nil _))) | exact (Take.cons _ _ _ _ _ (by first | exact Rem.p0 | exact Rem.p1 | exact Rem.p2 | exact Rem.p3 | exact Rem.p4 | exact Rem.p5 | exact Rem.p6 | exact Rem.p7 | exact Rem.p8 | exact Rem.p9 | exact Rem.p10 | exact Rem.p11 | exact Rem.p12 | exact Rem.p13) (Take.cons _ _ _ _ _ (by first | exact Rem.p0 | exact Rem.p1 | exact Rem.p2 | exact Rem.p3 | exact Rem.p4 | exact Rem.p5 | exact Rem.p6 | exact Rem.p7 | exact Rem.p8 | exact Rem.p9 | exact Rem.p10 | exact Rem.p11 | exact Rem.p12 | exact Rem.p13) (Take.cons _ _ _ _ _ (by first | exact Rem.p0 | exact Rem.p1 | exact Rem.p2 | exact Rem.p3 | exact Rem.p4 | exact Rem.p5 | exact Rem.p6 | exact Rem.p7 | exact Rem.p8 | exact Rem.p9 | exact Rem.p10 | exact Rem.p11 | exact Rem.p12 | exact Rem.p13) (Take.nil _)))) | exact (Take.cons _ _ _ _ _ (by first | exact Rem.p0 | exact Rem.p1 | exact Rem.p2 | exact Rem.p3 | exact Rem.p4 | exact Rem.p5 | exact Rem.p6 | exact Rem.p7 | exact Rem.p8 | exact Rem.p9 | exact Rem.p10 | exact Rem.p11 | exact Rem.p12 | exact Rem.p13) (Take.cons _ _ _ _ _ (by first | exact Rem.p0 | exact Rem.p1 | exact Rem.p2 | exact Rem.p3 | exact Rem.p4 | exact Rem.p5 | exact Rem.p6 | exact Rem.p7 | exact Rem.p8 | exact Rem.p9 | exact Rem.p10 | exact Rem.p11 | exact Rem.p12 | exact Rem.p13) (Take.cons _ _ _ _ _ (by first | exact Rem.p0 | exact Rem.p1 | exact Rem.p2 | exact Rem.p3 | exact Rem.p4 | exact Rem.p5 | exact Rem.p6 | exact Rem.p7 | exact Rem.p8 | exact Rem.p9 | exact Rem.p10 | exact Rem.p11 | exact Rem.p12 | exact Rem.p13) (Take.cons _ _ _ _ _ (by first | exact Rem.p0 | exact Rem.p1 | exact Rem.p2 | exact Rem.p3 | exact Rem.p4 | exact Rem.p5 | exact Rem.p6 | exact Rem.p7 | exact Rem.p8 | exact Rem.p9 | exact Rem.p10 | exact Rem.p11 | exact Rem.p12 | exact Rem.p13) (Take.nil _)))))) (by exact LendL.nil) (walks_spec) rfl) (fun r H hp => ?_)
  obtain ⟨rfl, rfl⟩ := hp
  first | refine GoO.pure (ps_notD rfl rfl) ?_ | refine GoO.pure (ps_not rfl rfl) ?_
  refine GoO.nil ?_
  refine GoK.code ?_
  refine GoC.condF rfl ?_
  refine GoC.skip ?_
  refine GoK.code ?_
  refine GoC.seq ?_
  refine GoC.region ?_
  first | refine GoO.pure (ps_loadAg rfl (by first | exact At.p0 | exact At.p1 | exact At.p2 | exact At.p3 | exact At.p4 | exact At.p5 | exact At.p6 | exact At.p7 | exact At.p8 | exact At.p9 | exact At.p10 | exact At.p11 | exact At.p12 | exact At.p13) (by first | exact At.p0 | exact At.p1 | exact At.p2 | exact At.p3 | exact At.p4 | exact At.p5 | exact At.p6 | exact At.p7 | exact At.p8 | exact At.p9 | exact At.p10 | exact At.p11 | exact At.p12 | exact At.p13) ?_ rfl rfl) ?_ | refine GoO.pure (ps_loadAgR rfl ?_ rfl rfl) ?_
  · first | exact Nat.zero_lt_one | assumption | omega | exact InI.of (by omega) (by omega) | (simp only [ints_len, bools_len, st1_len, arcs_len, lits_len, List.length_set, List.length_append, List.length_cons, List.length_nil, List.length_replicate]; omega)
  refine GoO.pure (ps_move rfl rfl) ?_
  refine GoO.effC (ef_call rfl (by first | exact (Take.nil _) | exact (Take.cons _ _ _ _ _ (by first | exact Rem.p0 | exact Rem.p1 | exact Rem.p2 | exact Rem.p3 | exact Rem.p4 | exact Rem.p5 | exact Rem.p6 | exact Rem.p7 | exact Rem.p8 | exact Rem.p9 | exact Rem.p10 | exact Rem.p11 | exact Rem.p12 | exact Rem.p13) (Take.nil _)) | exact (Take.cons _ _ _ _ _ (by first | exact Rem.p0 | exact Rem.p1 | exact Rem.p2 | exact Rem.p3 | exact Rem.p4 | exact Rem.p5 | exact Rem.p6 | exact Rem.p7 | exact Rem.p8 | exact Rem.p9 | exact Rem.p10 | exact Rem.p11 | exact Rem.p12 | exact Rem.p13) (Take.cons _ _ _ _ _ (by first | exact Rem.p0 | exact Rem.p1 | exact Rem.p2 | exact Rem.p3 | exact Rem.p4 | exact Rem.p5 | exact Rem.p6 | exact Rem.p7 | exact Rem.p8 | exact Rem.p9 | exact Rem.p10 | exact Rem.p11 | exact Rem.p12 | exact Rem.p13) (Take.nil _))) | exact (Take.cons _ _ _ _ _ (by first | exact Rem.p0 | exact Rem.p1 | exact Rem.p2 | exact Rem.p3 | exact Rem.p4 | exact Rem.p5 | exact Rem.p6 | exact Rem.p7 | exact Rem.p8 | exact Rem.p9 | exact Rem.p10 | exact Rem.p11 | exact Rem.p12 | exact Rem.p13) (Take.cons _ _ _ _ _ (by first | exact Rem.p0 | exact Rem.p1 | exact Rem.p2 | exact Rem.p3 | exact Rem.p4 | exact Rem.p5 | exact Rem.p6 | exact Rem.p7 | exact Rem.p8 | exact Rem.p9 | exact Rem.p10 | exact Rem.p11 | exact Rem.p12 | exact Rem.p13) (Take.cons _ _ _ _ _ (by first | exact Rem.p0 | exact Rem.p1 | exact Rem.p2 | exact Rem.p3 | exact Rem.p4 | exact Rem.p5 | exact Rem.p6 | exact Rem.p7 | exact Rem.p8 | exact Rem.p9 | exact Rem.p10 | exact Rem.p11 | exact Rem.p12 | exact Rem.p13) (Take.nil _)))) | exact (Take.cons _ _ _ _ _ (by first | exact Rem.p0 | exact Rem.p1 | exact Rem.p2 | exact Rem.p3 | exact Rem.p4 | exact Rem.p5 | exact Rem.p6 | exact Rem.p7 | exact Rem.p8 | exact Rem.p9 | exact Rem.p10 | exact Rem.p11 | exact Rem.p12 | exact Rem.p13) (Take.cons _ _ _ _ _ (by first | exact Rem.p0 | exact Rem.p1 | exact Rem.p2 | exact Rem.p3 | exact Rem.p4 | exact Rem.p5 | exact Rem.p6 | exact Rem.p7 | exact Rem.p8 | exact Rem.p9 | exact Rem.p10 | exact Rem.p11 | exact Rem.p12 | exact Rem.p13) (Take.cons _ _ _ _ _ (by first | exact Rem.p0 | exact Rem.p1 | exact Rem.p2 | exact Rem.p3 | exact Rem.p4 | exact Rem.p5 | exact Rem.p6 | exact Rem.p7 | exact Rem.p8 | exact Rem.p9 | exact Rem.p10 | exact Rem.p11 | exact Rem.p12 | exact Rem.p13) (Take.cons _ _ _ _ _ (by first | exact Rem.p0 | exact Rem.p1 | exact Rem.p2 | exact Rem.p3 | exact Rem.p4 | exact Rem.p5 | exact Rem.p6 | exact Rem.p7 | exact Rem.p8 | exact Rem.p9 | exact Rem.p10 | exact Rem.p11 | exact Rem.p12 | exact Rem.p13) (Take.nil _)))))) (by exact LendL.cons (by first | exact Lend.refl _ _ | exact Lend.all' (by first | exact At.p0 | exact At.p1 | exact At.p2 | exact At.p3 | exact At.p4 | exact At.p5 | exact At.p6 | exact At.p7 | exact At.p8 | exact At.p9 | exact At.p10 | exact At.p11 | exact At.p12 | exact At.p13) (by rfl) (by rfl) | exact Lend.nil | exact Lend.e0 | exact Lend.agL (by repeat (first | exact LendL.nil | refine LendL.cons (by first | exact Lend.refl _ _ | exact Lend.all' (by first | exact At.p0 | exact At.p1 | exact At.p2 | exact At.p3 | exact At.p4 | exact At.p5 | exact At.p6 | exact At.p7 | exact At.p8 | exact At.p9 | exact At.p10 | exact At.p11 | exact At.p12 | exact At.p13) (by rfl) (by rfl) | exact Lend.nil) ?_))) (LendL.cons (by first | exact Lend.refl _ _ | exact Lend.all' (by first | exact At.p0 | exact At.p1 | exact At.p2 | exact At.p3 | exact At.p4 | exact At.p5 | exact At.p6 | exact At.p7 | exact At.p8 | exact At.p9 | exact At.p10 | exact At.p11 | exact At.p12 | exact At.p13) (by rfl) (by rfl) | exact Lend.nil | exact Lend.e0 | exact Lend.agL (by repeat (first | exact LendL.nil | refine LendL.cons (by first | exact Lend.refl _ _ | exact Lend.all' (by first | exact At.p0 | exact At.p1 | exact At.p2 | exact At.p3 | exact At.p4 | exact At.p5 | exact At.p6 | exact At.p7 | exact At.p8 | exact At.p9 | exact At.p10 | exact At.p11 | exact At.p12 | exact At.p13) (by rfl) (by rfl) | exact Lend.nil) ?_))) (LendL.nil))) (far_spec g s hs) rfl) (fun r H hp => ?_)
  obtain ⟨βf, rfl, rfl⟩ := hp
  refine GoO.pure (ps_move rfl rfl) ?_
  refine GoO.pure (ps_extract rfl rfl rfl) ?_
  refine GoO.pure (ps_extract rfl rfl rfl) ?_
  refine GoO.pure (ps_assign rfl rfl) ?_
  refine GoO.pure (ps_assign rfl rfl) ?_
  refine GoO.nil ?_
  refine GoK.code ?_
  refine GoC.seq ?_
  refine GoC.seq ?_
  refine GoC.region ?_
  refine GoO.pure (ps_move rfl rfl) ?_
  first | refine GoO.pure (ps_neq rfl rfl rfl) ?_ | refine GoO.pure (ps_neqB rfl rfl rfl) ?_ | refine GoO.pure (ps_neqA rfl rfl rfl rfl) ?_
  refine GoO.nil ?_
  refine GoK.code ?_
  first | refine GoC.condD rfl (fun h15 => ?_) (fun h15 => ?_) | refine GoC.cond rfl (fun h15 => ?_) (fun h15 => ?_)
  · skip
    first | have hq := search_ok (Classical.not_not.1 ‹¬ (searchF g s).1 ≠ 0›) | have he := search_err ‹(searchF g s).1 ≠ 0›
    first | obtain ⟨hg, hs0, hs1, hf⟩ := hq | skip
    first | have he1 : (searchF g s).2.1.length = 0 := (by rw [he]; rfl) | have he1 := hf.l1
    first | have hn0 := hg.n0 | skip
    first | have hn1 := hg.n1 | skip
    first | have hal := hg.len | skip
    first | have hz := hf.s0 | skip
    first | simp only [at0] at hz | skip
    refine GoC.seq ?_
    refine GoC.region ?_
    refine GoO.pure (ps_move rfl rfl) ?_
    refine GoO.pure (ps_len rfl (by constructor) rfl) ?_
    first | refine GoO.pure (ps_eql rfl rfl rfl) ?_ | refine GoO.pure (ps_eqlB rfl rfl rfl) ?_ | refine GoO.pure (ps_eqlA rfl rfl rfl rfl) ?_
    refine GoO.pure (ps_assign rfl rfl) ?_
    refine GoO.nil ?_
    refine GoK.code ?_
    refine GoC.ret1 (H' := []) Try.results8 (ResD.tmp rfl) (by exact (Take.nil _)) ?_
    · exact ⟨bo_true (by omega), rfl⟩
  · skip
    first | have hq := search_ok (Classical.not_not.1 ‹¬ (searchF g s).1 ≠ 0›) | have he := search_err ‹(searchF g s).1 ≠ 0›
    first | obtain ⟨hg, hs0, hs1, hf⟩ := hq | skip
    first | have he1 : (searchF g s).2.1.length = 0 := (by rw [he]; rfl) | have he1 := hf.l1
    first | have hn0 := hg.n0 | skip
    first | have hn1 := hg.n1 | skip
    first | have hal := hg.len | skip
    first | have hz := hf.s0 | skip
    first | simp only [at0] at hz | skip
    refine GoC.skip ?_
    refine GoK.code ?_
    refine GoC.seq ?_
    refine GoC.seq ?_
    refine GoC.region ?_
    refine GoO.pure (ps_move rfl rfl) ?_
    refine GoO.pure (ps_len rfl (by constructor) rfl) ?_
    first | refine GoO.pure (ps_fieldAddr rfl rfl) ?_ | refine GoO.pure (ps_fieldAddrR rfl rfl) ?_
    first | refine GoO.pure (ps_load rfl (by first | exact At.p0 | exact At.p1 | exact At.p2 | exact At.p3 | exact At.p4 | exact At.p5 | exact At.p6 | exact At.p7 | exact At.p8 | exact At.p9 | exact At.p10 | exact At.p11 | exact At.p12 | exact At.p13) (by first | exact At.p0 | exact At.p1 | exact At.p2 | exact At.p3 | exact At.p4 | exact At.p5 | exact At.p6 | exact At.p7 | exact At.p8 | exact At.p9 | exact At.p10 | exact At.p11 | exact At.p12 | exact At.p13) ?_ rfl rfl) ?_ | refine GoO.pure (ps_loadR rfl ?_ rfl rfl) ?_
    · first | exact Nat.zero_lt_one | assumption | omega | exact InI.of (by omega) (by omega) | (simp only [ints_len, bools_len, st1_len, arcs_len, lits_len, List.length_set, List.length_append, List.length_cons, List.length_nil, List.length_replicate]; omega)
    first | refine GoO.pure (ps_neq rfl rfl rfl) ?_ | refine GoO.pure (ps_neqB rfl rfl rfl) ?_ | refine GoO.pure (ps_neqA rfl rfl rfl rfl) ?_
    refine GoO.pure (ps_move rfl rfl) ?_
    first | refine GoO.guardE rfl rfl rfl rfl (fun h26 => ?_) (fun h26 => ?_) | refine GoO.guard rfl rfl rfl rfl (fun h26 => ?_) (fun h26 => ?_)
    · skip
      refine GoO.pure (ps_move rfl rfl) ?_
      refine GoO.guardT rfl rfl rfl ?_
      refine GoO.pure (ps_move rfl rfl) ?_
      refine GoO.guardT rfl rfl rfl ?_
      first | refine GoO.pure (ps_indexAddr0N rfl rfl ?_ rfl) ?_ | refine GoO.pure (ps_indexAddrRN rfl rfl ?_ rfl) ?_ | refine GoO.pure (ps_indexAddr0 rfl rfl ?_ rfl) ?_ | refine GoO.pure (ps_indexAddrN rfl rfl ?_ rfl) ?_ | refine GoO.pure (ps_indexAddr rfl rfl ?_ rfl) ?_ | refine GoO.pure (ps_indexAddrR rfl rfl ?_ rfl) ?_
      · first | exact Nat.zero_lt_one | assumption | omega | exact InI.of (by omega) (by omega) | (simp only [ints_len, bools_len, st1_len, arcs_len, lits_len, List.length_set, List.length_append, List.length_cons, List.length_nil, List.length_replicate]; omega)
      refine GoO.guardT rfl rfl rfl ?_
      first | refine GoO.pure (ps_load rfl (by first | exact At.p0 | exact At.p1 | exact At.p2 | exact At.p3 | exact At.p4 | exact At.p5 | exact At.p6 | exact At.p7 | exact At.p8 | exact At.p9 | exact At.p10 | exact At.p11 | exact At.p12 | exact At.p13) (by first | exact At.p0 | exact At.p1 | exact At.p2 | exact At.p3 | exact At.p4 | exact At.p5 | exact At.p6 | exact At.p7 | exact At.p8 | exact At.p9 | exact At.p10 | exact At.p11 | exact At.p12 | exact At.p13) ?_ rfl rfl) ?_ | refine GoO.pure (ps_loadR rfl ?_ rfl rfl) ?_
      · first | exact Nat.zero_lt_one | assumption | omega | exact InI.of (by omega) (by omega) | (simp only [ints_len, bools_len, st1_len, arcs_len, lits_len, List.length_set, List.length_append, List.length_cons, List.length_nil, List.length_replicate]; omega)
      refine GoO.guardT rfl rfl rfl ?_
      first | refine GoO.pure (ps_neq rfl rfl rfl) ?_ | refine GoO.pure (ps_neqB rfl rfl rfl) ?_ | refine GoO.pure (ps_neqA rfl rfl rfl rfl) ?_
      refine GoO.pure (ps_pickF rfl rfl rfl) ?_
      refine GoO.nil ?_
      refine GoK.code ?_
      first | refine GoC.condD rfl (fun h33 => ?_) (fun h33 => ?_) | refine GoC.cond rfl (fun h33 => ?_) (fun h33 => ?_)
      · skip
        refine GoC.seq ?_
        refine GoC.region ?_
        refine GoO.pure (ps_assign rfl rfl) ?_
        refine GoO.nil ?_
        refine GoK.code ?_
        refine GoC.ret1 (H' := []) Try.results8 (ResD.tmp rfl) (by exact (Take.nil _)) ?_
        · exfalso; omega
      · skip
        refine GoC.skip ?_
        refine GoK.code ?_
        refine GoC.seq ?_
        refine GoC.region ?_
        first | refine GoO.pure (ps_fieldAddr rfl rfl) ?_ | refine GoO.pure (ps_fieldAddrR rfl rfl) ?_
        first | refine GoO.pure (ps_load rfl (by first | exact At.p0 | exact At.p1 | exact At.p2 | exact At.p3 | exact At.p4 | exact At.p5 | exact At.p6 | exact At.p7 | exact At.p8 | exact At.p9 | exact At.p10 | exact At.p11 | exact At.p12 | exact At.p13) (by first | exact At.p0 | exact At.p1 | exact At.p2 | exact At.p3 | exact At.p4 | exact At.p5 | exact At.p6 | exact At.p7 | exact At.p8 | exact At.p9 | exact At.p10 | exact At.p11 | exact At.p12 | exact At.p13) ?_ rfl rfl) ?_ | refine GoO.pure (ps_loadR rfl ?_ rfl rfl) ?_
        · first | exact Nat.zero_lt_one | assumption | omega | exact InI.of (by omega) (by omega) | (simp only [ints_len, bools_len, st1_len, arcs_len, lits_len, List.length_set, List.length_append, List.length_cons, List.length_nil, List.length_replicate]; omega)
        refine GoO.effB (ef_make rfl rfl ?_ ?_ rfl rfl) (fun β37 => ?_)
        · first | exact Nat.zero_lt_one | assumption | omega | exact InI.of (by omega) (by omega) | (simp only [ints_len, bools_len, st1_len, arcs_len, lits_len, List.length_set, List.length_append, List.length_cons, List.length_nil, List.length_replicate]; omega)
        · first | exact Nat.zero_lt_one | assumption | omega | exact InI.of (by omega) (by omega) | (simp only [ints_len, bools_len, st1_len, arcs_len, lits_len, List.length_set, List.length_append, List.length_cons, List.length_nil, List.length_replicate]; omega)
        refine GoO.pure (ps_assign rfl rfl) ?_
        refine GoO.nil ?_
        refine GoK.code ?_
        refine GoC.seq ?_
        refine GoC.region ?_
        refine GoO.pure (ps_move rfl rfl) ?_
        refine GoO.pure (ps_move rfl rfl) ?_
        first | refine GoO.pure (ps_indexAddr0N rfl rfl ?_ rfl) ?_ | refine GoO.pure (ps_indexAddrRN rfl rfl ?_ rfl) ?_ | refine GoO.pure (ps_indexAddr0 rfl rfl ?_ rfl) ?_ | refine GoO.pure (ps_indexAddrN rfl rfl ?_ rfl) ?_ | refine GoO.pure (ps_indexAddr rfl rfl ?_ rfl) ?_ | refine GoO.pure (ps_indexAddrR rfl rfl ?_ rfl) ?_
        · first | exact Nat.zero_lt_one | assumption | omega | exact InI.of (by omega) (by omega) | (simp only [ints_len, bools_len, st1_len, arcs_len, lits_len, List.length_set, List.length_append, List.length_cons, List.length_nil, List.length_replicate]; omega)
        refine GoO.eff1 (ef_store rfl rfl rfl (by first | exact At.p0 | exact At.p1 | exact At.p2 | exact At.p3 | exact At.p4 | exact At.p5 | exact At.p6 | exact At.p7 | exact At.p8 | exact At.p9 | exact At.p10 | exact At.p11 | exact At.p12 | exact At.p13) (by first | exact upd_ints | exact upd_bools | exact upd_st1) ?_ rfl) ?_
        · first | exact Nat.zero_lt_one | assumption | omega | exact InI.of (by omega) (by omega) | (simp only [ints_len, bools_len, st1_len, arcs_len, lits_len, List.length_set, List.length_append, List.length_cons, List.length_nil, List.length_replicate]; omega)
        refine GoO.nil ?_
        refine GoK.code ?_
        refine GoC.seq ?_
        refine GoC.seq ?_
        refine GoC.region ?_
        first | refine GoO.pure (ps_fieldAddr rfl rfl) ?_ | refine GoO.pure (ps_fieldAddrR rfl rfl) ?_
        first | refine GoO.pure (ps_load rfl (by first | exact At.p0 | exact At.p1 | exact At.p2 | exact At.p3 | exact At.p4 | exact At.p5 | exact At.p6 | exact At.p7 | exact At.p8 | exact At.p9 | exact At.p10 | exact At.p11 | exact At.p12 | exact At.p13) (by first | exact At.p0 | exact At.p1 | exact At.p2 | exact At.p3 | exact At.p4 | exact At.p5 | exact At.p6 | exact At.p7 | exact At.p8 | exact At.p9 | exact At.p10 | exact At.p11 | exact At.p12 | exact At.p13) ?_ rfl rfl) ?_ | refine GoO.pure (ps_loadR rfl ?_ rfl rfl) ?_
        · first | exact Nat.zero_lt_one | assumption | omega | exact InI.of (by omega) (by omega) | (simp only [ints_len, bools_len, st1_len, arcs_len, lits_len, List.length_set, List.length_append, List.length_cons, List.length_nil, List.length_replicate]; omega)
        refine GoO.pure (ps_len rfl (by constructor) rfl) ?_
        refine GoO.pure (ps_move rfl rfl) ?_
        refine GoO.nil ?_
        refine GoK.code ?_
        refine GoC.block ?_
        refine GoC.loopE (σ := Nat × List Bool) [1, 2, 5, 7, 44, 45] (fun (k, hit) => [(46, .i (k : Int))]) (fun (k, hit) => [.one β37 4 1 (bools hit)]) (fun n (k, hit) => n = g.as.length - k ∧ HitW g s (searchF g s).2.1 k hit) (g.as.length) (0, _) ?_ (by repeat (first | exact EnvLe.nil | refine EnvLe.cons rfl ?_)) (by exact (Take.cons _ _ _ _ _ (by first | exact Rem.p0 | exact Rem.p1 | exact Rem.p2 | exact Rem.p3 | exact Rem.p4 | exact Rem.p5 | exact Rem.p6 | exact Rem.p7 | exact Rem.p8 | exact Rem.p9 | exact Rem.p10 | exact Rem.p11 | exact Rem.p12 | exact Rem.p13) (Take.nil _))) ?_
        · exact ⟨rfl, Nat.zero_le _, by simp, by rw [getD_set, if_pos ⟨rfl, by simp; omega⟩], fun j hj => absurd hj (by omega)⟩
        rintro n ⟨k, hit⟩ ⟨rfl, hI⟩
        have hk := hI.le
        have hl := hI.l
        refine GoC.seq ?_
        refine GoC.region ?_
        refine GoO.pure (ps_lss rfl rfl rfl) ?_
        refine GoO.nil ?_
        refine GoK.code ?_
        refine GoC.seq ?_
        first | refine GoC.condD rfl (fun h48 => ?_) (fun h48 => ?_) | refine GoC.cond rfl (fun h48 => ?_) (fun h48 => ?_)
        · skip
          have hlt : k < g.as.length := by omega
          have ha := hg.arc _ (mem_getD hlt)
          have a1 := ha.f0
          have a2 := ha.f1
          have a3 := ha.t0
          have a4 := ha.t1
          have har := hf.arc _ (mem_getD hlt)
          have b1 := hf.hi (g.as.getD k ⟨0, 0, 0⟩).f
          have b2 := hf.lo _ a1 a2
          simp only [at0] at har b1 b2
          refine GoC.skip ?_
          refine GoK.code ?_
          refine GoC.seq ?_
          refine GoC.block ?_
          refine GoC.seq ?_
          refine GoC.region ?_
          first | refine GoO.pure (ps_indexAddr0N rfl rfl ?_ rfl) ?_ | refine GoO.pure (ps_indexAddrRN rfl rfl ?_ rfl) ?_ | refine GoO.pure (ps_indexAddr0 rfl rfl ?_ rfl) ?_ | refine GoO.pure (ps_indexAddrN rfl rfl ?_ rfl) ?_ | refine GoO.pure (ps_indexAddr rfl rfl ?_ rfl) ?_ | refine GoO.pure (ps_indexAddrR rfl rfl ?_ rfl) ?_
          · first | exact Nat.zero_lt_one | assumption | omega | exact InI.of (by omega) (by omega) | (simp only [ints_len, bools_len, st1_len, arcs_len, lits_len, List.length_set, List.length_append, List.length_cons, List.length_nil, List.length_replicate]; omega)
          first | refine GoO.pure (ps_loadAg rfl (by first | exact At.p0 | exact At.p1 | exact At.p2 | exact At.p3 | exact At.p4 | exact At.p5 | exact At.p6 | exact At.p7 | exact At.p8 | exact At.p9 | exact At.p10 | exact At.p11 | exact At.p12 | exact At.p13) (by first | exact At.p0 | exact At.p1 | exact At.p2 | exact At.p3 | exact At.p4 | exact At.p5 | exact At.p6 | exact At.p7 | exact At.p8 | exact At.p9 | exact At.p10 | exact At.p11 | exact At.p12 | exact At.p13) ?_ rfl rfl) ?_ | refine GoO.pure (ps_loadAgR rfl ?_ rfl rfl) ?_
          · first | exact Nat.zero_lt_one | assumption | omega | exact InI.of (by omega) (by omega) | (simp only [ints_len, bools_len, st1_len, arcs_len, lits_len, List.length_set, List.length_append, List.length_cons, List.length_nil, List.length_replicate]; omega)
          refine GoO.effB (ef_alloc rfl) (fun β51 => ?_)
          refine GoO.eff1 (ef_storeAg rfl rfl (by first | exact At.p0 | exact At.p1 | exact At.p2 | exact At.p3 | exact At.p4 | exact At.p5 | exact At.p6 | exact At.p7 | exact At.p8 | exact At.p9 | exact At.p10 | exact At.p11 | exact At.p12 | exact At.p13) upd_whole Nat.zero_lt_one rfl) ?_
          refine GoO.nil ?_
          refine GoK.code ?_
          refine GoC.seq ?_
          refine GoC.seq ?_
          refine GoC.drawA (.q 0 (.q 1 (.q 2 (.q 3 (.q 4 (.q 5 (.q 6 (.q 7 (.q 8 (.q 9 (.q 10 (.q 11 (.q 12 (.q 13 (.q 14 (.q 15 (.q 16 (.q 17 (.q 18 (.q 19 (.q 20 (.q 21 (.q 22 (.q 23 (.q 24 (.q 25 (.q 26 (.q 27 (.done))))))))))))))))))))))))))))) follows (by kernel_rfl) ?_
          refine GoP.qN rfl (ps_move rfl rfl) ?_
          first | refine GoP.qN rfl (ps_fieldAddr rfl rfl) ?_ | refine GoP.qN rfl (ps_fieldAddrR rfl rfl) ?_
          first | refine GoP.qN rfl (ps_load rfl (by first | exact At.p0 | exact At.p1 | exact At.p2 | exact At.p3 | exact At.p4 | exact At.p5 | exact At.p6 | exact At.p7 | exact At.p8 | exact At.p9 | exact At.p10 | exact At.p11 | exact At.p12 | exact At.p13) (by first | exact At.p0 | exact At.p1 | exact At.p2 | exact At.p3 | exact At.p4 | exact At.p5 | exact At.p6 | exact At.p7 | exact At.p8 | exact At.p9 | exact At.p10 | exact At.p11 | exact At.p12 | exact At.p13) ?_ rfl rfl) ?_ | refine GoP.qN rfl (ps_loadR rfl ?_ rfl rfl) ?_
          · first | exact Nat.zero_lt_one | assumption | omega | exact InI.of (by omega) (by omega) | (simp only [ints_len, bools_len, st1_len, arcs_len, lits_len, List.length_set, List.length_append, List.length_cons, List.length_nil, List.length_replicate]; omega)
          first | refine GoP.qN rfl (ps_indexAddr0N rfl rfl ?_ rfl) ?_ | refine GoP.qN rfl (ps_indexAddrRN rfl rfl ?_ rfl) ?_ | refine GoP.qN rfl (ps_indexAddr0 rfl rfl ?_ rfl) ?_ | refine GoP.qN rfl (ps_indexAddrN rfl rfl ?_ rfl) ?_ | refine GoP.qN rfl (ps_indexAddr rfl rfl ?_ rfl) ?_ | refine GoP.qN rfl (ps_indexAddrR rfl rfl ?_ rfl) ?_
          · first | exact Nat.zero_lt_one | assumption | omega | exact InI.of (by omega) (by omega) | (simp only [ints_len, bools_len, st1_len, arcs_len, lits_len, List.length_set, List.length_append, List.length_cons, List.length_nil, List.length_replicate]; omega)
          first | refine GoP.qN rfl (ps_load rfl (by first | exact At.p0 | exact At.p1 | exact At.p2 | exact At.p3 | exact At.p4 | exact At.p5 | exact At.p6 | exact At.p7 | exact At.p8 | exact At.p9 | exact At.p10 | exact At.p11 | exact At.p12 | exact At.p13) (by first | exact At.p0 | exact At.p1 | exact At.p2 | exact At.p3 | exact At.p4 | exact At.p5 | exact At.p6 | exact At.p7 | exact At.p8 | exact At.p9 | exact At.p10 | exact At.p11 | exact At.p12 | exact At.p13) ?_ rfl rfl) ?_ | refine GoP.qN rfl (ps_loadR rfl ?_ rfl rfl) ?_
          · first | exact Nat.zero_lt_one | assumption | omega | exact InI.of (by omega) (by omega) | (simp only [ints_len, bools_len, st1_len, arcs_len, lits_len, List.length_set, List.length_append, List.length_cons, List.length_nil, List.length_replicate]; omega)
          refine GoP.qN rfl (ps_geq rfl rfl rfl) ?_
          refine GoP.qN rfl (ps_move rfl rfl) ?_
          first | refine GoP.decideD 56 rfl (fun h60 => ?_) (fun h60 => ?_) | refine GoP.decide 56 rfl (fun h60 => ?_) (fun h60 => ?_)
          · skip
            refine GoP.qT rfl rfl rfl rfl (ps_move rfl rfl) ?_
            first | refine GoP.qT rfl rfl rfl rfl (ps_fieldAddr rfl rfl) ?_ | refine GoP.qT rfl rfl rfl rfl (ps_fieldAddrR rfl rfl) ?_
            first | refine GoP.qT rfl rfl rfl rfl (ps_load rfl (by first | exact At.p0 | exact At.p1 | exact At.p2 | exact At.p3 | exact At.p4 | exact At.p5 | exact At.p6 | exact At.p7 | exact At.p8 | exact At.p9 | exact At.p10 | exact At.p11 | exact At.p12 | exact At.p13) (by first | exact At.p0 | exact At.p1 | exact At.p2 | exact At.p3 | exact At.p4 | exact At.p5 | exact At.p6 | exact At.p7 | exact At.p8 | exact At.p9 | exact At.p10 | exact At.p11 | exact At.p12 | exact At.p13) ?_ rfl rfl) ?_ | refine GoP.qT rfl rfl rfl rfl (ps_loadR rfl ?_ rfl rfl) ?_
            · first | exact Nat.zero_lt_one | assumption | omega | exact InI.of (by omega) (by omega) | (simp only [ints_len, bools_len, st1_len, arcs_len, lits_len, List.length_set, List.length_append, List.length_cons, List.length_nil, List.length_replicate]; omega)
            first | refine GoP.qT rfl rfl rfl rfl (ps_indexAddr0N rfl rfl ?_ rfl) ?_ | refine GoP.qT rfl rfl rfl rfl (ps_indexAddrRN rfl rfl ?_ rfl) ?_ | refine GoP.qT rfl rfl rfl rfl (ps_indexAddr0 rfl rfl ?_ rfl) ?_ | refine GoP.qT rfl rfl rfl rfl (ps_indexAddrN rfl rfl ?_ rfl) ?_ | refine GoP.qT rfl rfl rfl rfl (ps_indexAddr rfl rfl ?_ rfl) ?_ | refine GoP.qT rfl rfl rfl rfl (ps_indexAddrR rfl rfl ?_ rfl) ?_
            · first | exact Nat.zero_lt_one | assumption | omega | exact InI.of (by omega) (by omega) | (simp only [ints_len, bools_len, st1_len, arcs_len, lits_len, List.length_set, List.length_append, List.length_cons, List.length_nil, List.length_replicate]; omega)
            first | refine GoP.qT rfl rfl rfl rfl (ps_load rfl (by first | exact At.p0 | exact At.p1 | exact At.p2 | exact At.p3 | exact At.p4 | exact At.p5 | exact At.p6 | exact At.p7 | exact At.p8 | exact At.p9 | exact At.p10 | exact At.p11 | exact At.p12 | exact At.p13) (by first | exact At.p0 | exact At.p1 | exact At.p2 | exact At.p3 | exact At.p4 | exact At.p5 | exact At.p6 | exact At.p7 | exact At.p8 | exact At.p9 | exact At.p10 | exact At.p11 | exact At.p12 | exact At.p13) ?_ rfl rfl) ?_ | refine GoP.qT rfl rfl rfl rfl (ps_loadR rfl ?_ rfl rfl) ?_
            · first | exact Nat.zero_lt_one | assumption | omega | exact InI.of (by omega) (by omega) | (simp only [ints_len, bools_len, st1_len, arcs_len, lits_len, List.length_set, List.length_append, List.length_cons, List.length_nil, List.length_replicate]; omega)
            refine GoP.qT rfl rfl rfl rfl (ps_lss rfl rfl rfl) ?_
            refine GoP.qT rfl rfl rfl rfl (ps_move rfl rfl) ?_
            first | refine GoP.decideD 63 rfl (fun h68 => ?_) (fun h68 => ?_) | refine GoP.decide 63 rfl (fun h68 => ?_) (fun h68 => ?_)
            · skip
              refine GoP.qF rfl rfl rfl rfl rfl ?_
              refine GoP.qF rfl rfl rfl rfl rfl ?_
              refine GoP.qF rfl rfl rfl rfl rfl ?_
              refine GoP.qF rfl rfl rfl rfl rfl ?_
              refine GoP.qF rfl rfl rfl rfl rfl ?_
              refine GoP.qF rfl rfl rfl rfl rfl ?_
              refine GoP.qF rfl rfl rfl rfl rfl ?_
              refine GoP.qF rfl rfl rfl rfl rfl ?_
              refine GoP.qF rfl rfl rfl rfl rfl ?_
              refine GoP.qF rfl rfl rfl rfl rfl ?_
              refine GoP.qF rfl rfl rfl rfl rfl ?_
              refine GoP.qF rfl rfl rfl rfl rfl ?_
              refine GoP.qT rfl rfl rfl rfl (ps_pickT rfl rfl rfl) ?_
              refine GoP.qN rfl (ps_pickT rfl rfl rfl) ?_
              refine GoP.done ?_
              refine GoK.code ?_
              refine GoC.condT rfl ?_
              refine GoC.seq ?_
              refine GoC.region ?_
              refine GoO.pure (ps_assign rfl rfl) ?_
              refine GoO.nil ?_
              refine GoK.code ?_
              refine GoC.ret1 (H' := []) Try.results8 (ResD.tmp rfl) (by exact (Take.nil _)) ?_
              · exfalso; first | omega | (have k1 := har (by omega); omega)
            · skip
              refine GoP.qT rfl rfl rfl rfl (ps_move rfl rfl) ?_
              first | refine GoP.qT rfl rfl rfl rfl (ps_fieldAddr rfl rfl) ?_ | refine GoP.qT rfl rfl rfl rfl (ps_fieldAddrR rfl rfl) ?_
              first | refine GoP.qT rfl rfl rfl rfl (ps_load rfl (by first | exact At.p0 | exact At.p1 | exact At.p2 | exact At.p3 | exact At.p4 | exact At.p5 | exact At.p6 | exact At.p7 | exact At.p8 | exact At.p9 | exact At.p10 | exact At.p11 | exact At.p12 | exact At.p13) (by first | exact At.p0 | exact At.p1 | exact At.p2 | exact At.p3 | exact At.p4 | exact At.p5 | exact At.p6 | exact At.p7 | exact At.p8 | exact At.p9 | exact At.p10 | exact At.p11 | exact At.p12 | exact At.p13) ?_ rfl rfl) ?_ | refine GoP.qT rfl rfl rfl rfl (ps_loadR rfl ?_ rfl rfl) ?_
              · first | exact Nat.zero_lt_one | assumption | omega | exact InI.of (by omega) (by omega) | (simp only [ints_len, bools_len, st1_len, arcs_len, lits_len, List.length_set, List.length_append, List.length_cons, List.length_nil, List.length_replicate]; omega)
              first | refine GoP.qT rfl rfl rfl rfl (ps_indexAddr0N rfl rfl ?_ rfl) ?_ | refine GoP.qT rfl rfl rfl rfl (ps_indexAddrRN rfl rfl ?_ rfl) ?_ | refine GoP.qT rfl rfl rfl rfl (ps_indexAddr0 rfl rfl ?_ rfl) ?_ | refine GoP.qT rfl rfl rfl rfl (ps_indexAddrN rfl rfl ?_ rfl) ?_ | refine GoP.qT rfl rfl rfl rfl (ps_indexAddr rfl rfl ?_ rfl) ?_ | refine GoP.qT rfl rfl rfl rfl (ps_indexAddrR rfl rfl ?_ rfl) ?_
              · first | exact Nat.zero_lt_one | assumption | omega | exact InI.of (by omega) (by omega) | (simp only [ints_len, bools_len, st1_len, arcs_len, lits_len, List.length_set, List.length_append, List.length_cons, List.length_nil, List.length_replicate]; omega)
              first | refine GoP.qT rfl rfl rfl rfl (ps_load rfl (by first | exact At.p0 | exact At.p1 | exact At.p2 | exact At.p3 | exact At.p4 | exact At.p5 | exact At.p6 | exact At.p7 | exact At.p8 | exact At.p9 | exact At.p10 | exact At.p11 | exact At.p12 | exact At.p13) (by first | exact At.p0 | exact At.p1 | exact At.p2 | exact At.p3 | exact At.p4 | exact At.p5 | exact At.p6 | exact At.p7 | exact At.p8 | exact At.p9 | exact At.p10 | exact At.p11 | exact At.p12 | exact At.p13) ?_ rfl rfl) ?_ | refine GoP.qT rfl rfl rfl rfl (ps_loadR rfl ?_ rfl rfl) ?_
              · first | exact Nat.zero_lt_one | assumption | omega | exact InI.of (by omega) (by omega) | (simp only [ints_len, bools_len, st1_len, arcs_len, lits_len, List.length_set, List.length_append, List.length_cons, List.length_nil, List.length_replicate]; omega)
              refine GoP.qT rfl rfl rfl rfl (ps_move rfl rfl) ?_
              first | refine GoP.qT rfl rfl rfl rfl (ps_fieldAddr rfl rfl) ?_ | refine GoP.qT rfl rfl rfl rfl (ps_fieldAddrR rfl rfl) ?_
              first | refine GoP.qT rfl rfl rfl rfl (ps_load rfl (by first | exact At.p0 | exact At.p1 | exact At.p2 | exact At.p3 | exact At.p4 | exact At.p5 | exact At.p6 | exact At.p7 | exact At.p8 | exact At.p9 | exact At.p10 | exact At.p11 | exact At.p12 | exact At.p13) (by first | exact At.p0 | exact At.p1 | exact At.p2 | exact At.p3 | exact At.p4 | exact At.p5 | exact At.p6 | exact At.p7 | exact At.p8 | exact At.p9 | exact At.p10 | exact At.p11 | exact At.p12 | exact At.p13) ?_ rfl rfl) ?_ | refine GoP.qT rfl rfl rfl rfl (ps_loadR rfl ?_ rfl rfl) ?_
              · first | exact Nat.zero_lt_one | assumption | omega | exact InI.of (by omega) (by omega) | (simp only [ints_len, bools_len, st1_len, arcs_len, lits_len, List.length_set, List.length_append, List.length_cons, List.length_nil, List.length_replicate]; omega)
              first | refine GoP.qT rfl rfl rfl rfl (ps_indexAddr0N rfl rfl ?_ rfl) ?_ | refine GoP.qT rfl rfl rfl rfl (ps_indexAddrRN rfl rfl ?_ rfl) ?_ | refine GoP.qT rfl rfl rfl rfl (ps_indexAddr0 rfl rfl ?_ rfl) ?_ | refine GoP.qT rfl rfl rfl rfl (ps_indexAddrN rfl rfl ?_ rfl) ?_ | refine GoP.qT rfl rfl rfl rfl (ps_indexAddr rfl rfl ?_ rfl) ?_ | refine GoP.qT rfl rfl rfl rfl (ps_indexAddrR rfl rfl ?_ rfl) ?_
              · first | exact Nat.zero_lt_one | assumption | omega | exact InI.of (by omega) (by omega) | (simp only [ints_len, bools_len, st1_len, arcs_len, lits_len, List.length_set, List.length_append, List.length_cons, List.length_nil, List.length_replicate]; omega)
              first | refine GoP.qT rfl rfl rfl rfl (ps_load rfl (by first | exact At.p0 | exact At.p1 | exact At.p2 | exact At.p3 | exact At.p4 | exact At.p5 | exact At.p6 | exact At.p7 | exact At.p8 | exact At.p9 | exact At.p10 | exact At.p11 | exact At.p12 | exact At.p13) (by first | exact At.p0 | exact At.p1 | exact At.p2 | exact At.p3 | exact At.p4 | exact At.p5 | exact At.p6 | exact At.p7 | exact At.p8 | exact At.p9 | exact At.p10 | exact At.p11 | exact At.p12 | exact At.p13) ?_ rfl rfl) ?_ | refine GoP.qT rfl rfl rfl rfl (ps_loadR rfl ?_ rfl rfl) ?_
              · first | exact Nat.zero_lt_one | assumption | omega | exact InI.of (by omega) (by omega) | (simp only [ints_len, bools_len, st1_len, arcs_len, lits_len, List.length_set, List.length_append, List.length_cons, List.length_nil, List.length_replicate]; omega)
              refine GoP.qT rfl rfl rfl rfl (ps_add rfl rfl rfl ?_) ?_
              · first | exact Nat.zero_lt_one | assumption | omega | exact InI.of (by omega) (by omega) | (simp only [ints_len, bools_len, st1_len, arcs_len, lits_len, List.length_set, List.length_append, List.length_cons, List.length_nil, List.length_replicate]; omega)
              refine GoP.qT rfl rfl rfl rfl (ps_gtr rfl rfl rfl) ?_
              refine GoP.qT rfl rfl rfl rfl (ps_pickF rfl rfl rfl) ?_
              refine GoP.qN rfl (ps_pickT rfl rfl rfl) ?_
              refine GoP.done ?_
              refine GoK.code ?_
              first | refine GoC.condD rfl (fun h86 => ?_) (fun h86 => ?_) | refine GoC.cond rfl (fun h86 => ?_) (fun h86 => ?_)
              · skip
                refine GoC.seq ?_
                refine GoC.region ?_
                refine GoO.pure (ps_assign rfl rfl) ?_
                refine GoO.nil ?_
                refine GoK.code ?_
                refine GoC.ret1 (H' := []) Try.results8 (ResD.tmp rfl) (by exact (Take.nil _)) ?_
                · exfalso; first | omega | (have k1 := har (by omega); omega)
              · skip
                refine GoC.skip ?_
                refine GoK.code ?_
                refine GoC.drawP (.q 0 (.q 1 (.q 2 (.q 3 (.q 4 (.q 5 (.q 6 (.one 7 (.q 8 (.q 9 (.q 10 (.q 11 (.q 12 (.q 13 (.q 14 (.q 15 (.q 16 (.q 17 (.q 18 (.q 19 (.q 20 (.q 21 (.q 22 (.q 23 (.q 24 (.q 25 (.q 26 (.q 27 (.q 28 (.q 29 (.q 30 (.one 31 (.done))))))))))))))))))))))))))))))))) [(9, _, _, _), (5, _, _, _)] follows (by kernel_rfl) (by exact (Take.cons _ _ _ _ _ (by first | exact Rem.p0 | exact Rem.p1 | exact Rem.p2 | exact Rem.p3 | exact Rem.p4 | exact Rem.p5 | exact Rem.p6 | exact Rem.p7 | exact Rem.p8 | exact Rem.p9 | exact Rem.p10 | exact Rem.p11 | exact Rem.p12 | exact Rem.p13) (Take.cons _ _ _ _ _ (by first | exact Rem.p0 | exact Rem.p1 | exact Rem.p2 | exact Rem.p3 | exact Rem.p4 | exact Rem.p5 | exact Rem.p6 | exact Rem.p7 | exact Rem.p8 | exact Rem.p9 | exact Rem.p10 | exact Rem.p11 | exact Rem.p12 | exact Rem.p13) (Take.nil _)))) ?_
                refine GoP.qN rfl (ps_move rfl rfl) ?_
                first | refine GoP.qN rfl (ps_fieldAddr rfl rfl) ?_ | refine GoP.qN rfl (ps_fieldAddrR rfl rfl) ?_
                first | refine GoP.qN rfl (ps_load rfl (by first | exact At.p0 | exact At.p1 | exact At.p2 | exact At.p3 | exact At.p4 | exact At.p5 | exact At.p6 | exact At.p7 | exact At.p8 | exact At.p9 | exact At.p10 | exact At.p11 | exact At.p12 | exact At.p13) (by first | exact At.p0 | exact At.p1 | exact At.p2 | exact At.p3 | exact At.p4 | exact At.p5 | exact At.p6 | exact At.p7 | exact At.p8 | exact At.p9 | exact At.p10 | exact At.p11 | exact At.p12 | exact At.p13) ?_ rfl rfl) ?_ | refine GoP.qN rfl (ps_loadR rfl ?_ rfl rfl) ?_
                · first | exact Nat.zero_lt_one | assumption | omega | exact InI.of (by omega) (by omega) | (simp only [ints_len, bools_len, st1_len, arcs_len, lits_len, List.length_set, List.length_append, List.length_cons, List.length_nil, List.length_replicate]; omega)
                refine GoP.qN rfl (ps_move rfl rfl) ?_
                first | refine GoP.qN rfl (ps_fieldAddr rfl rfl) ?_ | refine GoP.qN rfl (ps_fieldAddrR rfl rfl) ?_
                first | refine GoP.qN rfl (ps_load rfl (by first | exact At.p0 | exact At.p1 | exact At.p2 | exact At.p3 | exact At.p4 | exact At.p5 | exact At.p6 | exact At.p7 | exact At.p8 | exact At.p9 | exact At.p10 | exact At.p11 | exact At.p12 | exact At.p13) (by first | exact At.p0 | exact At.p1 | exact At.p2 | exact At.p3 | exact At.p4 | exact At.p5 | exact At.p6 | exact At.p7 | exact At.p8 | exact At.p9 | exact At.p10 | exact At.p11 | exact At.p12 | exact At.p13) ?_ rfl rfl) ?_ | refine GoP.qN rfl (ps_loadR rfl ?_ rfl rfl) ?_
                · first | exact Nat.zero_lt_one | assumption | omega | exact InI.of (by omega) (by omega) | (simp only [ints_len, bools_len, st1_len, arcs_len, lits_len, List.length_set, List.length_append, List.length_cons, List.length_nil, List.length_replicate]; omega)
                first | refine GoP.qN rfl (ps_indexAddr0N rfl rfl ?_ rfl) ?_ | refine GoP.qN rfl (ps_indexAddrRN rfl rfl ?_ rfl) ?_ | refine GoP.qN rfl (ps_indexAddr0 rfl rfl ?_ rfl) ?_ | refine GoP.qN rfl (ps_indexAddrN rfl rfl ?_ rfl) ?_ | refine GoP.qN rfl (ps_indexAddr rfl rfl ?_ rfl) ?_ | refine GoP.qN rfl (ps_indexAddrR rfl rfl ?_ rfl) ?_
                · first | exact Nat.zero_lt_one | assumption | omega | exact InI.of (by omega) (by omega) | (simp only [ints_len, bools_len, st1_len, arcs_len, lits_len, List.length_set, List.length_append, List.length_cons, List.length_nil, List.length_replicate]; omega)
                first | refine GoP.oneN rfl (ps_load rfl (by first | exact At.p0 | exact At.p1 | exact At.p2 | exact At.p3 | exact At.p4 | exact At.p5 | exact At.p6 | exact At.p7 | exact At.p8 | exact At.p9 | exact At.p10 | exact At.p11 | exact At.p12 | exact At.p13) (by first | exact At.p0 | exact At.p1 | exact At.p2 | exact At.p3 | exact At.p4 | exact At.p5 | exact At.p6 | exact At.p7 | exact At.p8 | exact At.p9 | exact At.p10 | exact At.p11 | exact At.p12 | exact At.p13) ?_ rfl rfl) (by exact (Take.cons _ _ _ _ _ (by first | exact Rem.p0 | exact Rem.p1 | exact Rem.p2 | exact Rem.p3 | exact Rem.p4 | exact Rem.p5 | exact Rem.p6 | exact Rem.p7 | exact Rem.p8 | exact Rem.p9 | exact Rem.p10 | exact Rem.p11 | exact Rem.p12 | exact Rem.p13) (Take.cons _ _ _ _ _ (by first | exact Rem.p0 | exact Rem.p1 | exact Rem.p2 | exact Rem.p3 | exact Rem.p4 | exact Rem.p5 | exact Rem.p6 | exact Rem.p7 | exact Rem.p8 | exact Rem.p9 | exact Rem.p10 | exact Rem.p11 | exact Rem.p12 | exact Rem.p13) (Take.nil _)))) ?_ | refine GoP.oneN rfl (ps_loadR rfl ?_ rfl rfl) (by exact (Take.cons _ _ _ _ _ (by first | exact Rem.p0 | exact Rem.p1 | exact Rem.p2 | exact Rem.p3 | exact Rem.p4 | exact Rem.p5 | exact Rem.p6 | exact Rem.p7 | exact Rem.p8 | exact Rem.p9 | exact Rem.p10 | exact Rem.p11 | exact Rem.p12 | exact Rem.p13) (Take.cons _ _ _ _ _ (by first | exact Rem.p0 | exact Rem.p1 | exact Rem.p2 | exact Rem.p3 | exact Rem.p4 | exact Rem.p5 | exact Rem.p6 | exact Rem.p7 | exact Rem.p8 | exact Rem.p9 | exact Rem.p10 | exact Rem.p11 | exact Rem.p12 | exact Rem.p13) (Take.nil _)))) ?_
                · first | exact Nat.zero_lt_one | assumption | omega | exact InI.of (by omega) (by omega) | (simp only [ints_len, bools_len, st1_len, arcs_len, lits_len, List.length_set, List.length_append, List.length_cons, List.length_nil, List.length_replicate]; omega)
                refine GoP.qN rfl (ps_move rfl rfl) ?_
                first | refine GoP.decideD 86 rfl (fun h97 => ?_) (fun h97 => ?_) | refine GoP.decide 86 rfl (fun h97 => ?_) (fun h97 => ?_)
                · skip
                  refine GoP.qF rfl rfl rfl rfl rfl ?_
                  refine GoP.qF rfl rfl rfl rfl rfl ?_
                  refine GoP.qF rfl rfl rfl rfl rfl ?_
                  refine GoP.qF rfl rfl rfl rfl rfl ?_
                  refine GoP.qF rfl rfl rfl rfl rfl ?_
                  refine GoP.qF rfl rfl rfl rfl rfl ?_
                  refine GoP.qF rfl rfl rfl rfl rfl ?_
                  refine GoP.qU rfl rfl rfl rfl rfl ?_
                  refine GoP.qU rfl rfl rfl rfl rfl ?_
                  refine GoP.qU rfl rfl rfl rfl rfl ?_
                  refine GoP.qU rfl rfl rfl rfl rfl ?_
                  refine GoP.qU rfl rfl rfl rfl rfl ?_
                  refine GoP.qU rfl rfl rfl rfl rfl ?_
                  refine GoP.qU rfl rfl rfl rfl rfl ?_
                  refine GoP.qU rfl rfl rfl rfl rfl ?_
                  refine GoP.qU rfl rfl rfl rfl rfl ?_
                  refine GoP.qU rfl rfl rfl rfl rfl ?_
                  refine GoP.qU rfl rfl rfl rfl rfl ?_
                  refine GoP.qU rfl rfl rfl rfl rfl ?_
                  refine GoP.qF rfl rfl rfl rfl rfl ?_
                  refine GoP.qN rfl (ps_pickT rfl rfl rfl) ?_
                  first | refine GoP.qN rfl (ps_indexAddr0N rfl rfl ?_ rfl) ?_ | refine GoP.qN rfl (ps_indexAddrRN rfl rfl ?_ rfl) ?_ | refine GoP.qN rfl (ps_indexAddr0 rfl rfl ?_ rfl) ?_ | refine GoP.qN rfl (ps_indexAddrN rfl rfl ?_ rfl) ?_ | refine GoP.qN rfl (ps_indexAddr rfl rfl ?_ rfl) ?_ | refine GoP.qN rfl (ps_indexAddrR rfl rfl ?_ rfl) ?_
                  · first | exact Nat.zero_lt_one | assumption | omega | exact InI.of (by omega) (by omega) | (simp only [ints_len, bools_len, st1_len, arcs_len, lits_len, List.length_set, List.length_append, List.length_cons, List.length_nil, List.length_replicate]; omega)
                  refine GoP.one1 rfl trivial (ef_store rfl rfl rfl (by first | exact At.p0 | exact At.p1 | exact At.p2 | exact At.p3 | exact At.p4 | exact At.p5 | exact At.p6 | exact At.p7 | exact At.p8 | exact At.p9 | exact At.p10 | exact At.p11 | exact At.p12 | exact At.p13) (by first | exact upd_ints | exact upd_bools | exact upd_st1) ?_ rfl) (by exact (Take.cons _ _ _ _ _ (by first | exact Rem.p0 | exact Rem.p1 | exact Rem.p2 | exact Rem.p3 | exact Rem.p4 | exact Rem.p5 | exact Rem.p6 | exact Rem.p7 | exact Rem.p8 | exact Rem.p9 | exact Rem.p10 | exact Rem.p11 | exact Rem.p12 | exact Rem.p13) (Take.cons _ _ _ _ _ (by first | exact Rem.p0 | exact Rem.p1 | exact Rem.p2 | exact Rem.p3 | exact Rem.p4 | exact Rem.p5 | exact Rem.p6 | exact Rem.p7 | exact Rem.p8 | exact Rem.p9 | exact Rem.p10 | exact Rem.p11 | exact Rem.p12 | exact Rem.p13) (Take.cons _ _ _ _ _ (by first | exact Rem.p0 | exact Rem.p1 | exact Rem.p2 | exact Rem.p3 | exact Rem.p4 | exact Rem.p5 | exact Rem.p6 | exact Rem.p7 | exact Rem.p8 | exact Rem.p9 | exact Rem.p10 | exact Rem.p11 | exact Rem.p12 | exact Rem.p13) (Take.nil _))))) ?_
                  · first | exact Nat.zero_lt_one | assumption | omega | exact InI.of (by omega) (by omega) | (simp only [ints_len, bools_len, st1_len, arcs_len, lits_len, List.length_set, List.length_append, List.length_cons, List.length_nil, List.length_replicate]; omega)
                  refine GoP.done ?_
                  refine GoK.blk ?_
                  refine GoK.code ?_
                  refine GoC.region ?_
                  refine GoO.pure (ps_add rfl rfl rfl ?_) ?_
                  · first | exact Nat.zero_lt_one | assumption | omega | exact InI.of (by omega) (by omega) | (simp only [ints_len, bools_len, st1_len, arcs_len, lits_len, List.length_set, List.length_append, List.length_cons, List.length_nil, List.length_replicate]; omega)
                  refine GoO.pure (ps_move rfl rfl) ?_
                  refine GoO.nil ?_
                  refine GoK.againE (g.as.length - (k + 1)) ((k + 1, _)) ?_ ?_ (by repeat (first | exact EnvLe.nil | refine EnvLe.cons rfl ?_)) (by repeat (first | exact Tk.all _ | exact Tk.nil | refine Tk.cons (by first | exact Rem.p0 | exact Rem.p1 | exact Rem.p2 | exact Rem.p3 | exact Rem.p4 | exact Rem.p5 | exact Rem.p6 | exact Rem.p7 | exact Rem.p8 | exact Rem.p9 | exact Rem.p10 | exact Rem.p11 | exact Rem.p12 | exact Rem.p13) ?_))
                  · omega
                  · exact ⟨rfl, hI.step hlt (by rintro (h | ⟨h, h2⟩) <;> first | rfl | exact decide_eq_true (by omega) | (exfalso; simp only [at0] at h h2; omega) | simp_all) (by omega)⟩
                · skip
                  refine GoP.qT rfl rfl rfl rfl (ps_move rfl rfl) ?_
                  first | refine GoP.qT rfl rfl rfl rfl (ps_fieldAddr rfl rfl) ?_ | refine GoP.qT rfl rfl rfl rfl (ps_fieldAddrR rfl rfl) ?_
                  first | refine GoP.qT rfl rfl rfl rfl (ps_load rfl (by first | exact At.p0 | exact At.p1 | exact At.p2 | exact At.p3 | exact At.p4 | exact At.p5 | exact At.p6 | exact At.p7 | exact At.p8 | exact At.p9 | exact At.p10 | exact At.p11 | exact At.p12 | exact At.p13) (by first | exact At.p0 | exact At.p1 | exact At.p2 | exact At.p3 | exact At.p4 | exact At.p5 | exact At.p6 | exact At.p7 | exact At.p8 | exact At.p9 | exact At.p10 | exact At.p11 | exact At.p12 | exact At.p13) ?_ rfl rfl) ?_ | refine GoP.qT rfl rfl rfl rfl (ps_loadR rfl ?_ rfl rfl) ?_
                  · first | exact Nat.zero_lt_one | assumption | omega | exact InI.of (by omega) (by omega) | (simp only [ints_len, bools_len, st1_len, arcs_len, lits_len, List.length_set, List.length_append, List.length_cons, List.length_nil, List.length_replicate]; omega)
                  first | refine GoP.qT rfl rfl rfl rfl (ps_indexAddr0N rfl rfl ?_ rfl) ?_ | refine GoP.qT rfl rfl rfl rfl (ps_indexAddrRN rfl rfl ?_ rfl) ?_ | refine GoP.qT rfl rfl rfl rfl (ps_indexAddr0 rfl rfl ?_ rfl) ?_ | refine GoP.qT rfl rfl rfl rfl (ps_indexAddrN rfl rfl ?_ rfl) ?_ | refine GoP.qT rfl rfl rfl rfl (ps_indexAddr rfl rfl ?_ rfl) ?_ | refine GoP.qT rfl rfl rfl rfl (ps_indexAddrR rfl rfl ?_ rfl) ?_
                  · first | exact Nat.zero_lt_one | assumption | omega | exact InI.of (by omega) (by omega) | (simp only [ints_len, bools_len, st1_len, arcs_len, lits_len, List.length_set, List.length_append, List.length_cons, List.length_nil, List.length_replicate]; omega)
                  first | refine GoP.qT rfl rfl rfl rfl (ps_load rfl (by first | exact At.p0 | exact At.p1 | exact At.p2 | exact At.p3 | exact At.p4 | exact At.p5 | exact At.p6 | exact At.p7 | exact At.p8 | exact At.p9 | exact At.p10 | exact At.p11 | exact At.p12 | exact At.p13) (by first | exact At.p0 | exact At.p1 | exact At.p2 | exact At.p3 | exact At.p4 | exact At.p5 | exact At.p6 | exact At.p7 | exact At.p8 | exact At.p9 | exact At.p10 | exact At.p11 | exact At.p12 | exact At.p13) ?_ rfl rfl) ?_ | refine GoP.qT rfl rfl rfl rfl (ps_loadR rfl ?_ rfl rfl) ?_
                  · first | exact Nat.zero_lt_one | assumption | omega | exact InI.of (by omega) (by omega) | (simp only [ints_len, bools_len, st1_len, arcs_len, lits_len, List.length_set, List.length_append, List.length_cons, List.length_nil, List.length_replicate]; omega)
                  refine GoP.qT rfl rfl rfl rfl (ps_geq rfl rfl rfl) ?_
                  refine GoP.qT rfl rfl rfl rfl (ps_move rfl rfl) ?_
                  first | refine GoP.decideD 93 rfl (fun h110 => ?_) (fun h110 => ?_) | refine GoP.decide 93 rfl (fun h110 => ?_) (fun h110 => ?_)
                  · skip
                    refine GoP.qT rfl rfl rfl rfl (ps_move rfl rfl) ?_
                    first | refine GoP.qT rfl rfl rfl rfl (ps_fieldAddr rfl rfl) ?_ | refine GoP.qT rfl rfl rfl rfl (ps_fieldAddrR rfl rfl) ?_
                    first | refine GoP.qT rfl rfl rfl rfl (ps_load rfl (by first | exact At.p0 | exact At.p1 | exact At.p2 | exact At.p3 | exact At.p4 | exact At.p5 | exact At.p6 | exact At.p7 | exact At.p8 | exact At.p9 | exact At.p10 | exact At.p11 | exact At.p12 | exact At.p13) (by first | exact At.p0 | exact At.p1 | exact At.p2 | exact At.p3 | exact At.p4 | exact At.p5 | exact At.p6 | exact At.p7 | exact At.p8 | exact At.p9 | exact At.p10 | exact At.p11 | exact At.p12 | exact At.p13) ?_ rfl rfl) ?_ | refine GoP.qT rfl rfl rfl rfl (ps_loadR rfl ?_ rfl rfl) ?_
                    · first | exact Nat.zero_lt_one | assumption | omega | exact InI.of (by omega) (by omega) | (simp only [ints_len, bools_len, st1_len, arcs_len, lits_len, List.length_set, List.length_append, List.length_cons, List.length_nil, List.length_replicate]; omega)
                    first | refine GoP.qT rfl rfl rfl rfl (ps_indexAddr0N rfl rfl ?_ rfl) ?_ | refine GoP.qT rfl rfl rfl rfl (ps_indexAddrRN rfl rfl ?_ rfl) ?_ | refine GoP.qT rfl rfl rfl rfl (ps_indexAddr0 rfl rfl ?_ rfl) ?_ | refine GoP.qT rfl rfl rfl rfl (ps_indexAddrN rfl rfl ?_ rfl) ?_ | refine GoP.qT rfl rfl rfl rfl (ps_indexAddr rfl rfl ?_ rfl) ?_ | refine GoP.qT rfl rfl rfl rfl (ps_indexAddrR rfl rfl ?_ rfl) ?_
                    · first | exact Nat.zero_lt_one | assumption | omega | exact InI.of (by omega) (by omega) | (simp only [ints_len, bools_len, st1_len, arcs_len, lits_len, List.length_set, List.length_append, List.length_cons, List.length_nil, List.length_replicate]; omega)
                    first | refine GoP.qT rfl rfl rfl rfl (ps_load rfl (by first | exact At.p0 | exact At.p1 | exact At.p2 | exact At.p3 | exact At.p4 | exact At.p5 | exact At.p6 | exact At.p7 | exact At.p8 | exact At.p9 | exact At.p10 | exact At.p11 | exact At.p12 | exact At.p13) (by first | exact At.p0 | exact At.p1 | exact At.p2 | exact At.p3 | exact At.p4 | exact At.p5 | exact At.p6 | exact At.p7 | exact At.p8 | exact At.p9 | exact At.p10 | exact At.p11 | exact At.p12 | exact At.p13) ?_ rfl rfl) ?_ | refine GoP.qT rfl rfl rfl rfl (ps_loadR rfl ?_ rfl rfl) ?_
                    · first | exact Nat.zero_lt_one | assumption | omega | exact InI.of (by omega) (by omega) | (simp only [ints_len, bools_len, st1_len, arcs_len, lits_len, List.length_set, List.length_append, List.length_cons, List.length_nil, List.length_replicate]; omega)
                    refine GoP.qT rfl rfl rfl rfl (ps_move rfl rfl) ?_
                    first | refine GoP.qT rfl rfl rfl rfl (ps_fieldAddr rfl rfl) ?_ | refine GoP.qT rfl rfl rfl rfl (ps_fieldAddrR rfl rfl) ?_
                    first | refine GoP.qT rfl rfl rfl rfl (ps_load rfl (by first | exact At.p0 | exact At.p1 | exact At.p2 | exact At.p3 | exact At.p4 | exact At.p5 | exact At.p6 | exact At.p7 | exact At.p8 | exact At.p9 | exact At.p10 | exact At.p11 | exact At.p12 | exact At.p13) (by first | exact At.p0 | exact At.p1 | exact At.p2 | exact At.p3 | exact At.p4 | exact At.p5 | exact At.p6 | exact At.p7 | exact At.p8 | exact At.p9 | exact At.p10 | exact At.p11 | exact At.p12 | exact At.p13) ?_ rfl rfl) ?_ | refine GoP.qT rfl rfl rfl rfl (ps_loadR rfl ?_ rfl rfl) ?_
                    · first | exact Nat.zero_lt_one | assumption | omega | exact InI.of (by omega) (by omega) | (simp only [ints_len, bools_len, st1_len, arcs_len, lits_len, List.length_set, List.length_append, List.length_cons, List.length_nil, List.length_replicate]; omega)
                    first | refine GoP.qT rfl rfl rfl rfl (ps_indexAddr0N rfl rfl ?_ rfl) ?_ | refine GoP.qT rfl rfl rfl rfl (ps_indexAddrRN rfl rfl ?_ rfl) ?_ | refine GoP.qT rfl rfl rfl rfl (ps_indexAddr0 rfl rfl ?_ rfl) ?_ | refine GoP.qT rfl rfl rfl rfl (ps_indexAddrN rfl rfl ?_ rfl) ?_ | refine GoP.qT rfl rfl rfl rfl (ps_indexAddr rfl rfl ?_ rfl) ?_ | refine GoP.qT rfl rfl rfl rfl (ps_indexAddrR rfl rfl ?_ rfl) ?_
                    · first | exact Nat.zero_lt_one | assumption | omega | exact InI.of (by omega) (by omega) | (simp only [ints_len, bools_len, st1_len, arcs_len, lits_len, List.length_set, List.length_append, List.length_cons, List.length_nil, List.length_replicate]; omega)
                    first | refine GoP.qT rfl rfl rfl rfl (ps_load rfl (by first | exact At.p0 | exact At.p1 | exact At.p2 | exact At.p3 | exact At.p4 | exact At.p5 | exact At.p6 | exact At.p7 | exact At.p8 | exact At.p9 | exact At.p10 | exact At.p11 | exact At.p12 | exact At.p13) (by first | exact At.p0 | exact At.p1 | exact At.p2 | exact At.p3 | exact At.p4 | exact At.p5 | exact At.p6 | exact At.p7 | exact At.p8 | exact At.p9 | exact At.p10 | exact At.p11 | exact At.p12 | exact At.p13) ?_ rfl rfl) ?_ | refine GoP.qT rfl rfl rfl rfl (ps_loadR rfl ?_ rfl rfl) ?_
                    · first | exact Nat.zero_lt_one | assumption | omega | exact InI.of (by omega) (by omega) | (simp only [ints_len, bools_len, st1_len, arcs_len, lits_len, List.length_set, List.length_append, List.length_cons, List.length_nil, List.length_replicate]; omega)
                    refine GoP.qT rfl rfl rfl rfl (ps_add rfl rfl rfl ?_) ?_
                    · first | exact Nat.zero_lt_one | assumption | omega | exact InI.of (by omega) (by omega) | (simp only [ints_len, bools_len, st1_len, arcs_len, lits_len, List.length_set, List.length_append, List.length_cons, List.length_nil, List.length_replicate]; omega)
                    first | refine GoP.qT rfl rfl rfl rfl (ps_eql rfl rfl rfl) ?_ | refine GoP.qT rfl rfl rfl rfl (ps_eqlB rfl rfl rfl) ?_ | refine GoP.qT rfl rfl rfl rfl (ps_eqlA rfl rfl rfl rfl) ?_
                    refine GoP.qT rfl rfl rfl rfl (ps_pickT rfl rfl rfl) ?_
                    refine GoP.qN rfl (ps_pickF rfl rfl rfl) ?_
                    first | refine GoP.qN rfl (ps_indexAddr0N rfl rfl ?_ rfl) ?_ | refine GoP.qN rfl (ps_indexAddrRN rfl rfl ?_ rfl) ?_ | refine GoP.qN rfl (ps_indexAddr0 rfl rfl ?_ rfl) ?_ | refine GoP.qN rfl (ps_indexAddrN rfl rfl ?_ rfl) ?_ | refine GoP.qN rfl (ps_indexAddr rfl rfl ?_ rfl) ?_ | refine GoP.qN rfl (ps_indexAddrR rfl rfl ?_ rfl) ?_
                    · first | exact Nat.zero_lt_one | assumption | omega | exact InI.of (by omega) (by omega) | (simp only [ints_len, bools_len, st1_len, arcs_len, lits_len, List.length_set, List.length_append, List.length_cons, List.length_nil, List.length_replicate]; omega)
                    refine GoP.one1 rfl trivial (ef_store rfl rfl rfl (by first | exact At.p0 | exact At.p1 | exact At.p2 | exact At.p3 | exact At.p4 | exact At.p5 | exact At.p6 | exact At.p7 | exact At.p8 | exact At.p9 | exact At.p10 | exact At.p11 | exact At.p12 | exact At.p13) (by first | exact upd_ints | exact upd_bools | exact upd_st1) ?_ rfl) (by exact (Take.cons _ _ _ _ _ (by first | exact Rem.p0 | exact Rem.p1 | exact Rem.p2 | exact Rem.p3 | exact Rem.p4 | exact Rem.p5 | exact Rem.p6 | exact Rem.p7 | exact Rem.p8 | exact Rem.p9 | exact Rem.p10 | exact Rem.p11 | exact Rem.p12 | exact Rem.p13) (Take.cons _ _ _ _ _ (by first | exact Rem.p0 | exact Rem.p1 | exact Rem.p2 | exact Rem.p3 | exact Rem.p4 | exact Rem.p5 | exact Rem.p6 | exact Rem.p7 | exact Rem.p8 | exact Rem.p9 | exact Rem.p10 | exact Rem.p11 | exact Rem.p12 | exact Rem.p13) (Take.cons _ _ _ _ _ (by first | exact Rem.p0 | exact Rem.p1 | exact Rem.p2 | exact Rem.p3 | exact Rem.p4 | exact Rem.p5 | exact Rem.p6 | exact Rem.p7 | exact Rem.p8 | exact Rem.p9 | exact Rem.p10 | exact Rem.p11 | exact Rem.p12 | exact Rem.p13) (Take.nil _))))) ?_
                    · first | exact Nat.zero_lt_one | assumption | omega | exact InI.of (by omega) (by omega) | (simp only [ints_len, bools_len, st1_len, arcs_len, lits_len, List.length_set, List.length_append, List.length_cons, List.length_nil, List.length_replicate]; omega)
                    refine GoP.done ?_
                    refine GoK.blk ?_
                    refine GoK.code ?_
                    refine GoC.region ?_
                    refine GoO.pure (ps_add rfl rfl rfl ?_) ?_
                    · first | exact Nat.zero_lt_one | assumption | omega | exact InI.of (by omega) (by omega) | (simp only [ints_len, bools_len, st1_len, arcs_len, lits_len, List.length_set, List.length_append, List.length_cons, List.length_nil, List.length_replicate]; omega)
                    refine GoO.pure (ps_move rfl rfl) ?_
                    refine GoO.nil ?_
                    refine GoK.againE (g.as.length - (k + 1)) ((k + 1, _)) ?_ ?_ (by repeat (first | exact EnvLe.nil | refine EnvLe.cons rfl ?_)) (by repeat (first | exact Tk.all _ | exact Tk.nil | refine Tk.cons (by first | exact Rem.p0 | exact Rem.p1 | exact Rem.p2 | exact Rem.p3 | exact Rem.p4 | exact Rem.p5 | exact Rem.p6 | exact Rem.p7 | exact Rem.p8 | exact Rem.p9 | exact Rem.p10 | exact Rem.p11 | exact Rem.p12 | exact Rem.p13) ?_))
                    · omega
                    · exact ⟨rfl, hI.step hlt (by rintro (h | ⟨h, h2⟩) <;> first | rfl | exact decide_eq_true (by omega) | (exfalso; simp only [at0] at h h2; omega) | simp_all) (by omega)⟩
                  · skip
                    refine GoP.qF rfl rfl rfl rfl rfl ?_
                    refine GoP.qF rfl rfl rfl rfl rfl ?_
                    refine GoP.qF rfl rfl rfl rfl rfl ?_
                    refine GoP.qF rfl rfl rfl rfl rfl ?_
                    refine GoP.qF rfl rfl rfl rfl rfl ?_
                    refine GoP.qF rfl rfl rfl rfl rfl ?_
                    refine GoP.qF rfl rfl rfl rfl rfl ?_
                    refine GoP.qF rfl rfl rfl rfl rfl ?_
                    refine GoP.qF rfl rfl rfl rfl rfl ?_
                    refine GoP.qF rfl rfl rfl rfl rfl ?_
                    refine GoP.qF rfl rfl rfl rfl rfl ?_
                    refine GoP.qF rfl rfl rfl rfl rfl ?_
                    refine GoP.qT rfl rfl rfl rfl (ps_pickF rfl rfl rfl) ?_
                    refine GoP.qN rfl (ps_pickF rfl rfl rfl) ?_
                    first | refine GoP.qN rfl (ps_indexAddr0N rfl rfl ?_ rfl) ?_ | refine GoP.qN rfl (ps_indexAddrRN rfl rfl ?_ rfl) ?_ | refine GoP.qN rfl (ps_indexAddr0 rfl rfl ?_ rfl) ?_ | refine GoP.qN rfl (ps_indexAddrN rfl rfl ?_ rfl) ?_ | refine GoP.qN rfl (ps_indexAddr rfl rfl ?_ rfl) ?_ | refine GoP.qN rfl (ps_indexAddrR rfl rfl ?_ rfl) ?_
                    · first | exact Nat.zero_lt_one | assumption | omega | exact InI.of (by omega) (by omega) | (simp only [ints_len, bools_len, st1_len, arcs_len, lits_len, List.length_set, List.length_append, List.length_cons, List.length_nil, List.length_replicate]; omega)
                    refine GoP.one1 rfl trivial (ef_store rfl rfl rfl (by first | exact At.p0 | exact At.p1 | exact At.p2 | exact At.p3 | exact At.p4 | exact At.p5 | exact At.p6 | exact At.p7 | exact At.p8 | exact At.p9 | exact At.p10 | exact At.p11 | exact At.p12 | exact At.p13) (by first | exact upd_ints | exact upd_bools | exact upd_st1) ?_ rfl) (by exact (Take.cons _ _ _ _ _ (by first | exact Rem.p0 | exact Rem.p1 | exact Rem.p2 | exact Rem.p3 | exact Rem.p4 | exact Rem.p5 | exact Rem.p6 | exact Rem.p7 | exact Rem.p8 | exact Rem.p9 | exact Rem.p10 | exact Rem.p11 | exact Rem.p12 | exact Rem.p13) (Take.cons _ _ _ _ _ (by first | exact Rem.p0 | exact Rem.p1 | exact Rem.p2 | exact Rem.p3 | exact Rem.p4 | exact Rem.p5 | exact Rem.p6 | exact Rem.p7 | exact Rem.p8 | exact Rem.p9 | exact Rem.p10 | exact Rem.p11 | exact Rem.p12 | exact Rem.p13) (Take.cons _ _ _ _ _ (by first | exact Rem.p0 | exact Rem.p1 | exact Rem.p2 | exact Rem.p3 | exact Rem.p4 | exact Rem.p5 | exact Rem.p6 | exact Rem.p7 | exact Rem.p8 | exact Rem.p9 | exact Rem.p10 | exact Rem.p11 | exact Rem.p12 | exact Rem.p13) (Take.nil _))))) ?_
                    · first | exact Nat.zero_lt_one | assumption | omega | exact InI.of (by omega) (by omega) | (simp only [ints_len, bools_len, st1_len, arcs_len, lits_len, List.length_set, List.length_append, List.length_cons, List.length_nil, List.length_replicate]; omega)
                    refine GoP.done ?_
                    refine GoK.blk ?_
                    refine GoK.code ?_
                    refine GoC.region ?_
                    refine GoO.pure (ps_add rfl rfl rfl ?_) ?_
                    · first | exact Nat.zero_lt_one | assumption | omega | exact InI.of (by omega) (by omega) | (simp only [ints_len, bools_len, st1_len, arcs_len, lits_len, List.length_set, List.length_append, List.length_cons, List.length_nil, List.length_replicate]; omega)
                    refine GoO.pure (ps_move rfl rfl) ?_
                    refine GoO.nil ?_
                    refine GoK.againE (g.as.length - (k + 1)) ((k + 1, _)) ?_ ?_ (by repeat (first | exact EnvLe.nil | refine EnvLe.cons rfl ?_)) (by repeat (first | exact Tk.all _ | exact Tk.nil | refine Tk.cons (by first | exact Rem.p0 | exact Rem.p1 | exact Rem.p2 | exact Rem.p3 | exact Rem.p4 | exact Rem.p5 | exact Rem.p6 | exact Rem.p7 | exact Rem.p8 | exact Rem.p9 | exact Rem.p10 | exact Rem.p11 | exact Rem.p12 | exact Rem.p13) ?_))
                    · omega
                    · exact ⟨rfl, hI.step hlt (by rintro (h | ⟨h, h2⟩) <;> first | rfl | exact decide_eq_true (by omega) | (exfalso; simp only [at0] at h h2; omega) | simp_all) (by omega)⟩
          · skip
            refine GoP.qF rfl rfl rfl rfl rfl ?_
            refine GoP.qF rfl rfl rfl rfl rfl ?_
            refine GoP.qF rfl rfl rfl rfl rfl ?_
            refine GoP.qF rfl rfl rfl rfl rfl ?_
            refine GoP.qF rfl rfl rfl rfl rfl ?_
            refine GoP.qF rfl rfl rfl rfl rfl ?_
            refine GoP.qF rfl rfl rfl rfl rfl ?_
            refine GoP.qU rfl rfl rfl rfl rfl ?_
            refine GoP.qU rfl rfl rfl rfl rfl ?_
            refine GoP.qU rfl rfl rfl rfl rfl ?_
            refine GoP.qU rfl rfl rfl rfl rfl ?_
            refine GoP.qU rfl rfl rfl rfl rfl ?_
            refine GoP.qU rfl rfl rfl rfl rfl ?_
            refine GoP.qU rfl rfl rfl rfl rfl ?_
            refine GoP.qU rfl rfl rfl rfl rfl ?_
            refine GoP.qU rfl rfl rfl rfl rfl ?_
            refine GoP.qU rfl rfl rfl rfl rfl ?_
            refine GoP.qU rfl rfl rfl rfl rfl ?_
            refine GoP.qU rfl rfl rfl rfl rfl ?_
            refine GoP.qF rfl rfl rfl rfl rfl ?_
            refine GoP.qN rfl (ps_pickF rfl rfl rfl) ?_
            refine GoP.done ?_
            refine GoK.code ?_
            refine GoC.condF rfl ?_
            refine GoC.skip ?_
            refine GoK.code ?_
            refine GoC.drawP (.q 0 (.q 1 (.q 2 (.q 3 (.q 4 (.q 5 (.q 6 (.one 7 (.q 8 (.q 9 (.q 10 (.q 11 (.q 12 (.q 13 (.q 14 (.q 15 (.q 16 (.q 17 (.q 18 (.q 19 (.q 20 (.q 21 (.q 22 (.q 23 (.q 24 (.q 25 (.q 26 (.q 27 (.q 28 (.q 29 (.q 30 (.one 31 (.done))))))))))))))))))))))))))))))))) [(9, _, _, _), (5, _, _, _)] follows (by kernel_rfl) (by exact (Take.cons _ _ _ _ _ (by first | exact Rem.p0 | exact Rem.p1 | exact Rem.p2 | exact Rem.p3 | exact Rem.p4 | exact Rem.p5 | exact Rem.p6 | exact Rem.p7 | exact Rem.p8 | exact Rem.p9 | exact Rem.p10 | exact Rem.p11 | exact Rem.p12 | exact Rem.p13) (Take.cons _ _ _ _ _ (by first | exact Rem.p0 | exact Rem.p1 | exact Rem.p2 | exact Rem.p3 | exact Rem.p4 | exact Rem.p5 | exact Rem.p6 | exact Rem.p7 | exact Rem.p8 | exact Rem.p9 | exact Rem.p10 | exact Rem.p11 | exact Rem.p12 | exact Rem.p13) (Take.nil _)))) ?_
            refine GoP.qN rfl (ps_move rfl rfl) ?_
            first | refine GoP.qN rfl (ps_fieldAddr rfl rfl) ?_ | refine GoP.qN rfl (ps_fieldAddrR rfl rfl) ?_
            first | refine GoP.qN rfl (ps_load rfl (by first | exact At.p0 | exact At.p1 | exact At.p2 | exact At.p3 | exact At.p4 | exact At.p5 | exact At.p6 | exact At.p7 | exact At.p8 | exact At.p9 | exact At.p10 | exact At.p11 | exact At.p12 | exact At.p13) (by first | exact At.p0 | exact At.p1 | exact At.p2 | exact At.p3 | exact At.p4 | exact At.p5 | exact At.p6 | exact At.p7 | exact At.p8 | exact At.p9 | exact At.p10 | exact At.p11 | exact At.p12 | exact At.p13) ?_ rfl rfl) ?_ | refine GoP.qN rfl (ps_loadR rfl ?_ rfl rfl) ?_
            · first | exact Nat.zero_lt_one | assumption | omega | exact InI.of (by omega) (by omega) | (simp only [ints_len, bools_len, st1_len, arcs_len, lits_len, List.length_set, List.length_append, List.length_cons, List.length_nil, List.length_replicate]; omega)
            refine GoP.qN rfl (ps_move rfl rfl) ?_
            first | refine GoP.qN rfl (ps_fieldAddr rfl rfl) ?_ | refine GoP.qN rfl (ps_fieldAddrR rfl rfl) ?_
            first | refine GoP.qN rfl (ps_load rfl (by first | exact At.p0 | exact At.p1 | exact At.p2 | exact At.p3 | exact At.p4 | exact At.p5 | exact At.p6 | exact At.p7 | exact At.p8 | exact At.p9 | exact At.p10 | exact At.p11 | exact At.p12 | exact At.p13) (by first | exact At.p0 | exact At.p1 | exact At.p2 | exact At.p3 | exact At.p4 | exact At.p5 | exact At.p6 | exact At.p7 | exact At.p8 | exact At.p9 | exact At.p10 | exact At.p11 | exact At.p12 | exact At.p13) ?_ rfl rfl) ?_ | refine GoP.qN rfl (ps_loadR rfl ?_ rfl rfl) ?_
            · first | exact Nat.zero_lt_one | assumption | omega | exact InI.of (by omega) (by omega) | (simp only [ints_len, bools_len, st1_len, arcs_len, lits_len, List.length_set, List.length_append, List.length_cons, List.length_nil, List.length_replicate]; omega)
            first | refine GoP.qN rfl (ps_indexAddr0N rfl rfl ?_ rfl) ?_ | refine GoP.qN rfl (ps_indexAddrRN rfl rfl ?_ rfl) ?_ | refine GoP.qN rfl (ps_indexAddr0 rfl rfl ?_ rfl) ?_ | refine GoP.qN rfl (ps_indexAddrN rfl rfl ?_ rfl) ?_ | refine GoP.qN rfl (ps_indexAddr rfl rfl ?_ rfl) ?_ | refine GoP.qN rfl (ps_indexAddrR rfl rfl ?_ rfl) ?_
            · first | exact Nat.zero_lt_one | assumption | omega | exact InI.of (by omega) (by omega) | (simp only [ints_len, bools_len, st1_len, arcs_len, lits_len, List.length_set, List.length_append, List.length_cons, List.length_nil, List.length_replicate]; omega)
            first | refine GoP.oneN rfl (ps_load rfl (by first | exact At.p0 | exact At.p1 | exact At.p2 | exact At.p3 | exact At.p4 | exact At.p5 | exact At.p6 | exact At.p7 | exact At.p8 | exact At.p9 | exact At.p10 | exact At.p11 | exact At.p12 | exact At.p13) (by first | exact At.p0 | exact At.p1 | exact At.p2 | exact At.p3 | exact At.p4 | exact At.p5 | exact At.p6 | exact At.p7 | exact At.p8 | exact At.p9 | exact At.p10 | exact At.p11 | exact At.p12 | exact At.p13) ?_ rfl rfl) (by exact (Take.cons _ _ _ _ _ (by first | exact Rem.p0 | exact Rem.p1 | exact Rem.p2 | exact Rem.p3 | exact Rem.p4 | exact Rem.p5 | exact Rem.p6 | exact Rem.p7 | exact Rem.p8 | exact Rem.p9 | exact Rem.p10 | exact Rem.p11 | exact Rem.p12 | exact Rem.p13) (Take.cons _ _ _ _ _ (by first | exact Rem.p0 | exact Rem.p1 | exact Rem.p2 | exact Rem.p3 | exact Rem.p4 | exact Rem.p5 | exact Rem.p6 | exact Rem.p7 | exact Rem.p8 | exact Rem.p9 | exact Rem.p10 | exact Rem.p11 | exact Rem.p12 | exact Rem.p13) (Take.nil _)))) ?_ | refine GoP.oneN rfl (ps_loadR rfl ?_ rfl rfl) (by exact (Take.cons _ _ _ _ _ (by first | exact Rem.p0 | exact Rem.p1 | exact Rem.p2 | exact Rem.p3 | exact Rem.p4 | exact Rem.p5 | exact Rem.p6 | exact Rem.p7 | exact Rem.p8 | exact Rem.p9 | exact Rem.p10 | exact Rem.p11 | exact Rem.p12 | exact Rem.p13) (Take.cons _ _ _ _ _ (by first | exact Rem.p0 | exact Rem.p1 | exact Rem.p2 | exact Rem.p3 | exact Rem.p4 | exact Rem.p5 | exact Rem.p6 | exact Rem.p7 | exact Rem.p8 | exact Rem.p9 | exact Rem.p10 | exact Rem.p11 | exact Rem.p12 | exact Rem.p13) (Take.nil _)))) ?_
            · first | exact Nat.zero_lt_one | assumption | omega | exact InI.of (by omega) (by omega) | (simp only [ints_len, bools_len, st1_len, arcs_len, lits_len, List.length_set, List.length_append, List.length_cons, List.length_nil, List.length_replicate]; omega)
            refine GoP.qN rfl (ps_move rfl rfl) ?_
            first | refine GoP.decideD 86 rfl (fun h145 => ?_) (fun h145 => ?_) | refine GoP.decide 86 rfl (fun h145 => ?_) (fun h145 => ?_)
            · skip
              refine GoP.qF rfl rfl rfl rfl rfl ?_
              refine GoP.qF rfl rfl rfl rfl rfl ?_
              refine GoP.qF rfl rfl rfl rfl rfl ?_
              refine GoP.qF rfl rfl rfl rfl rfl ?_
              refine GoP.qF rfl rfl rfl rfl rfl ?_
              refine GoP.qF rfl rfl rfl rfl rfl ?_
              refine GoP.qF rfl rfl rfl rfl rfl ?_
              refine GoP.qU rfl rfl rfl rfl rfl ?_
              refine GoP.qU rfl rfl rfl rfl rfl ?_
              refine GoP.qU rfl rfl rfl rfl rfl ?_
              refine GoP.qU rfl rfl rfl rfl rfl ?_
              refine GoP.qU rfl rfl rfl rfl rfl ?_
              refine GoP.qU rfl rfl rfl rfl rfl ?_
              refine GoP.qU rfl rfl rfl rfl rfl ?_
              refine GoP.qU rfl rfl rfl rfl rfl ?_
              refine GoP.qU rfl rfl rfl rfl rfl ?_
              refine GoP.qU rfl rfl rfl rfl rfl ?_
              refine GoP.qU rfl rfl rfl rfl rfl ?_
              refine GoP.qU rfl rfl rfl rfl rfl ?_
              refine GoP.qF rfl rfl rfl rfl rfl ?_
              refine GoP.qN rfl (ps_pickT rfl rfl rfl) ?_
              first | refine GoP.qN rfl (ps_indexAddr0N rfl rfl ?_ rfl) ?_ | refine GoP.qN rfl (ps_indexAddrRN rfl rfl ?_ rfl) ?_ | refine GoP.qN rfl (ps_indexAddr0 rfl rfl ?_ rfl) ?_ | refine GoP.qN rfl (ps_indexAddrN rfl rfl ?_ rfl) ?_ | refine GoP.qN rfl (ps_indexAddr rfl rfl ?_ rfl) ?_ | refine GoP.qN rfl (ps_indexAddrR rfl rfl ?_ rfl) ?_
              · first | exact Nat.zero_lt_one | assumption | omega | exact InI.of (by omega) (by omega) | (simp only [ints_len, bools_len, st1_len, arcs_len, lits_len, List.length_set, List.length_append, List.length_cons, List.length_nil, List.length_replicate]; omega)
              refine GoP.one1 rfl trivial (ef_store rfl rfl rfl (by first | exact At.p0 | exact At.p1 | exact At.p2 | exact At.p3 | exact At.p4 | exact At.p5 | exact At.p6 | exact At.p7 | exact At.p8 | exact At.p9 | exact At.p10 | exact At.p11 | exact At.p12 | exact At.p13) (by first | exact upd_ints | exact upd_bools | exact upd_st1) ?_ rfl) (by exact (Take.cons _ _ _ _ _ (by first | exact Rem.p0 | exact Rem.p1 | exact Rem.p2 | exact Rem.p3 | exact Rem.p4 | exact Rem.p5 | exact Rem.p6 | exact Rem.p7 | exact Rem.p8 | exact Rem.p9 | exact Rem.p10 | exact Rem.p11 | exact Rem.p12 | exact Rem.p13) (Take.cons _ _ _ _ _ (by first | exact Rem.p0 | exact Rem.p1 | exact Rem.p2 | exact Rem.p3 | exact Rem.p4 | exact Rem.p5 | exact Rem.p6 | exact Rem.p7 | exact Rem.p8 | exact Rem.p9 | exact Rem.p10 | exact Rem.p11 | exact Rem.p12 | exact Rem.p13) (Take.cons _ _ _ _ _ (by first | exact Rem.p0 | exact Rem.p1 | exact Rem.p2 | exact Rem.p3 | exact Rem.p4 | exact Rem.p5 | exact Rem.p6 | exact Rem.p7 | exact Rem.p8 | exact Rem.p9 | exact Rem.p10 | exact Rem.p11 | exact Rem.p12 | exact Rem.p13) (Take.nil _))))) ?_
              · first | exact Nat.zero_lt_one | assumption | omega | exact InI.of (by omega) (by omega) | (simp only [ints_len, bools_len, st1_len, arcs_len, lits_len, List.length_set, List.length_append, List.length_cons, List.length_nil, List.length_replicate]; omega)
              refine GoP.done ?_
              refine GoK.blk ?_
              refine GoK.code ?_
              refine GoC.region ?_
              refine GoO.pure (ps_add rfl rfl rfl ?_) ?_
              · first | exact Nat.zero_lt_one | assumption | omega | exact InI.of (by omega) (by omega) | (simp only [ints_len, bools_len, st1_len, arcs_len, lits_len, List.length_set, List.length_append, List.length_cons, List.length_nil, List.length_replicate]; omega)
              refine GoO.pure (ps_move rfl rfl) ?_
              refine GoO.nil ?_
              refine GoK.againE (g.as.length - (k + 1)) ((k + 1, _)) ?_ ?_ (by repeat (first | exact EnvLe.nil | refine EnvLe.cons rfl ?_)) (by repeat (first | exact Tk.all _ | exact Tk.nil | refine Tk.cons (by first | exact Rem.p0 | exact Rem.p1 | exact Rem.p2 | exact Rem.p3 | exact Rem.p4 | exact Rem.p5 | exact Rem.p6 | exact Rem.p7 | exact Rem.p8 | exact Rem.p9 | exact Rem.p10 | exact Rem.p11 | exact Rem.p12 | exact Rem.p13) ?_))
              · omega
              · exact ⟨rfl, hI.step hlt (by rintro (h | ⟨h, h2⟩) <;> first | rfl | exact decide_eq_true (by omega) | (exfalso; simp only [at0] at h h2; omega) | simp_all) (by omega)⟩
            · skip
              refine GoP.qT rfl rfl rfl rfl (ps_move rfl rfl) ?_
              first | refine GoP.qT rfl rfl rfl rfl (ps_fieldAddr rfl rfl) ?_ | refine GoP.qT rfl rfl rfl rfl (ps_fieldAddrR rfl rfl) ?_
              first | refine GoP.qT rfl rfl rfl rfl (ps_load rfl (by first | exact At.p0 | exact At.p1 | exact At.p2 | exact At.p3 | exact At.p4 | exact At.p5 | exact At.p6 | exact At.p7 | exact At.p8 | exact At.p9 | exact At.p10 | exact At.p11 | exact At.p12 | exact At.p13) (by first | exact At.p0 | exact At.p1 | exact At.p2 | exact At.p3 | exact At.p4 | exact At.p5 | exact At.p6 | exact At.p7 | exact At.p8 | exact At.p9 | exact At.p10 | exact At.p11 | exact At.p12 | exact At.p13) ?_ rfl rfl) ?_ | refine GoP.qT rfl rfl rfl rfl (ps_loadR rfl ?_ rfl rfl) ?_
              · first | exact Nat.zero_lt_one | assumption | omega | exact InI.of (by omega) (by omega) | (simp only [ints_len, bools_len, st1_len, arcs_len, lits_len, List.length_set, List.length_append, List.length_cons, List.length_nil, List.length_replicate]; omega)
              first | refine GoP.qT rfl rfl rfl rfl (ps_indexAddr0N rfl rfl ?_ rfl) ?_ | refine GoP.qT rfl rfl rfl rfl (ps_indexAddrRN rfl rfl ?_ rfl) ?_ | refine GoP.qT rfl rfl rfl rfl (ps_indexAddr0 rfl rfl ?_ rfl) ?_ | refine GoP.qT rfl rfl rfl rfl (ps_indexAddrN rfl rfl ?_ rfl) ?_ | refine GoP.qT rfl rfl rfl rfl (ps_indexAddr rfl rfl ?_ rfl) ?_ | refine GoP.qT rfl rfl rfl rfl (ps_indexAddrR rfl rfl ?_ rfl) ?_
              · first | exact Nat.zero_lt_one | assumption | omega | exact InI.of (by omega) (by omega) | (simp only [ints_len, bools_len, st1_len, arcs_len, lits_len, List.length_set, List.length_append, List.length_cons, List.length_nil, List.length_replicate]; omega)
              first | refine GoP.qT rfl rfl rfl rfl (ps_load rfl (by first | exact At.p0 | exact At.p1 | exact At.p2 | exact At.p3 | exact At.p4 | exact At.p5 | exact At.p6 | exact At.p7 | exact At.p8 | exact At.p9 | exact At.p10 | exact At.p11 | exact At.p12 | exact At.p13) (by first | exact At.p0 | exact At.p1 | exact At.p2 | exact At.p3 | exact At.p4 | exact At.p5 | exact At.p6 | exact At.p7 | exact At.p8 | exact At.p9 | exact At.p10 | exact At.p11 | exact At.p12 | exact At.p13) ?_ rfl rfl) ?_ | refine GoP.qT rfl rfl rfl rfl (ps_loadR rfl ?_ rfl rfl) ?_
              · first | exact Nat.zero_lt_one | assumption | omega | exact InI.of (by omega) (by omega) | (simp only [ints_len, bools_len, st1_len, arcs_len, lits_len, List.length_set, List.length_append, List.length_cons, List.length_nil, List.length_replicate]; omega)
              refine GoP.qT rfl rfl rfl rfl (ps_geq rfl rfl rfl) ?_
              refine GoP.qT rfl rfl rfl rfl (ps_move rfl rfl) ?_
              first | refine GoP.decideD 93 rfl (fun h158 => ?_) (fun h158 => ?_) | refine GoP.decide 93 rfl (fun h158 => ?_) (fun h158 => ?_)
              · skip
                refine GoP.qT rfl rfl rfl rfl (ps_move rfl rfl) ?_
                first | refine GoP.qT rfl rfl rfl rfl (ps_fieldAddr rfl rfl) ?_ | refine GoP.qT rfl rfl rfl rfl (ps_fieldAddrR rfl rfl) ?_
                first | refine GoP.qT rfl rfl rfl rfl (ps_load rfl (by first | exact At.p0 | exact At.p1 | exact At.p2 | exact At.p3 | exact At.p4 | exact At.p5 | exact At.p6 | exact At.p7 | exact At.p8 | exact At.p9 | exact At.p10 | exact At.p11 | exact At.p12 | exact At.p13) (by first | exact At.p0 | exact At.p1 | exact At.p2 | exact At.p3 | exact At.p4 | exact At.p5 | exact At.p6 | exact At.p7 | exact At.p8 | exact At.p9 | exact At.p10 | exact At.p11 | exact At.p12 | exact At.p13) ?_ rfl rfl) ?_ | refine GoP.qT rfl rfl rfl rfl (ps_loadR rfl ?_ rfl rfl) ?_
                · first | exact Nat.zero_lt_one | assumption | omega | exact InI.of (by omega) (by omega) | (simp only [ints_len, bools_len, st1_len, arcs_len, lits_len, List.length_set, List.length_append, List.length_cons, List.length_nil, List.length_replicate]; omega)
                first | refine GoP.qT rfl rfl rfl rfl (ps_indexAddr0N rfl rfl ?_ rfl) ?_ | refine GoP.qT rfl rfl rfl rfl (ps_indexAddrRN rfl rfl ?_ rfl) ?_ | refine GoP.qT rfl rfl rfl rfl (ps_indexAddr0 rfl rfl ?_ rfl) ?_ | refine GoP.qT rfl rfl rfl rfl (ps_indexAddrN rfl rfl ?_ rfl) ?_ | refine GoP.qT rfl rfl rfl rfl (ps_indexAddr rfl rfl ?_ rfl) ?_ | refine GoP.qT rfl rfl rfl rfl (ps_indexAddrR rfl rfl ?_ rfl) ?_
                · first | exact Nat.zero_lt_one | assumption | omega | exact InI.of (by omega) (by omega) | (simp only [ints_len, bools_len, st1_len, arcs_len, lits_len, List.length_set, List.length_append, List.length_cons, List.length_nil, List.length_replicate]; omega)
                first | refine GoP.qT rfl rfl rfl rfl (ps_load rfl (by first | exact At.p0 | exact At.p1 | exact At.p2 | exact At.p3 | exact At.p4 | exact At.p5 | exact At.p6 | exact At.p7 | exact At.p8 | exact At.p9 | exact At.p10 | exact At.p11 | exact At.p12 | exact At.p13) (by first | exact At.p0 | exact At.p1 | exact At.p2 | exact At.p3 | exact At.p4 | exact At.p5 | exact At.p6 | exact At.p7 | exact At.p8 | exact At.p9 | exact At.p10 | exact At.p11 | exact At.p12 | exact At.p13) ?_ rfl rfl) ?_ | refine GoP.qT rfl rfl rfl rfl (ps_loadR rfl ?_ rfl rfl) ?_
                · first | exact Nat.zero_lt_one | assumption | omega | exact InI.of (by omega) (by omega) | (simp only [ints_len, bools_len, st1_len, arcs_len, lits_len, List.length_set, List.length_append, List.length_cons, List.length_nil, List.length_replicate]; omega)
                refine GoP.qT rfl rfl rfl rfl (ps_move rfl rfl) ?_
                first | refine GoP.qT rfl rfl rfl rfl (ps_fieldAddr rfl rfl) ?_ | refine GoP.qT rfl rfl rfl rfl (ps_fieldAddrR rfl rfl) ?_
                first | refine GoP.qT rfl rfl rfl rfl (ps_load rfl (by first | exact At.p0 | exact At.p1 | exact At.p2 | exact At.p3 | exact At.p4 | exact At.p5 | exact At.p6 | exact At.p7 | exact At.p8 | exact At.p9 | exact At.p10 | exact At.p11 | exact At.p12 | exact At.p13) (by first | exact At.p0 | exact At.p1 | exact At.p2 | exact At.p3 | exact At.p4 | exact At.p5 | exact At.p6 | exact At.p7 | exact At.p8 | exact At.p9 | exact At.p10 | exact At.p11 | exact At.p12 | exact At.p13) ?_ rfl rfl) ?_ | refine GoP.qT rfl rfl rfl rfl (ps_loadR rfl ?_ rfl rfl) ?_
                · first | exact Nat.zero_lt_one | assumption | omega | exact InI.of (by omega) (by omega) | (simp only [ints_len, bools_len, st1_len, arcs_len, lits_len, List.length_set, List.length_append, List.length_cons, List.length_nil, List.length_replicate]; omega)
                first | refine GoP.qT rfl rfl rfl rfl (ps_indexAddr0N rfl rfl ?_ rfl) ?_ | refine GoP.qT rfl rfl rfl rfl (ps_indexAddrRN rfl rfl ?_ rfl) ?_ | refine GoP.qT rfl rfl rfl rfl (ps_indexAddr0 rfl rfl ?_ rfl) ?_ | refine GoP.qT rfl rfl rfl rfl (ps_indexAddrN rfl rfl ?_ rfl) ?_ | refine GoP.qT rfl rfl rfl rfl (ps_indexAddr rfl rfl ?_ rfl) ?_ | refine GoP.qT rfl rfl rfl rfl (ps_indexAddrR rfl rfl ?_ rfl) ?_
                · first | exact Nat.zero_lt_one | assumption | omega | exact InI.of (by omega) (by omega) | (simp only [ints_len, bools_len, st1_len, arcs_len, lits_len, List.length_set, List.length_append, List.length_cons, List.length_nil, List.length_replicate]; omega)
                first | refine GoP.qT rfl rfl rfl rfl (ps_load rfl (by first | exact At.p0 | exact At.p1 | exact At.p2 | exact At.p3 | exact At.p4 | exact At.p5 | exact At.p6 | exact At.p7 | exact At.p8 | exact At.p9 | exact At.p10 | exact At.p11 | exact At.p12 | exact At.p13) (by first | exact At.p0 | exact At.p1 | exact At.p2 | exact At.p3 | exact At.p4 | exact At.p5 | exact At.p6 | exact At.p7 | exact At.p8 | exact At.p9 | exact At.p10 | exact At.p11 | exact At.p12 | exact At.p13) ?_ rfl rfl) ?_ | refine GoP.qT rfl rfl rfl rfl (ps_loadR rfl ?_ rfl rfl) ?_
                · first | exact Nat.zero_lt_one | assumption | omega | exact InI.of (by omega) (by omega) | (simp only [ints_len, bools_len, st1_len, arcs_len, lits_len, List.length_set, List.length_append, List.length_cons, List.length_nil, List.length_replicate]; omega)
                refine GoP.qT rfl rfl rfl rfl (ps_add rfl rfl rfl ?_) ?_
                · first | exact Nat.zero_lt_one | assumption | omega | exact InI.of (by omega) (by omega) | (simp only [ints_len, bools_len, st1_len, arcs_len, lits_len, List.length_set, List.length_append, List.length_cons, List.length_nil, List.length_replicate]; omega)
                first | refine GoP.qT rfl rfl rfl rfl (ps_eql rfl rfl rfl) ?_ | refine GoP.qT rfl rfl rfl rfl (ps_eqlB rfl rfl rfl) ?_ | refine GoP.qT rfl rfl rfl rfl (ps_eqlA rfl rfl rfl rfl) ?_
                refine GoP.qT rfl rfl rfl rfl (ps_pickT rfl rfl rfl) ?_
                refine GoP.qN rfl (ps_pickF rfl rfl rfl) ?_
                first | refine GoP.qN rfl (ps_indexAddr0N rfl rfl ?_ rfl) ?_ | refine GoP.qN rfl (ps_indexAddrRN rfl rfl ?_ rfl) ?_ | refine GoP.qN rfl (ps_indexAddr0 rfl rfl ?_ rfl) ?_ | refine GoP.qN rfl (ps_indexAddrN rfl rfl ?_ rfl) ?_ | refine GoP.qN rfl (ps_indexAddr rfl rfl ?_ rfl) ?_ | refine GoP.qN rfl (ps_indexAddrR rfl rfl ?_ rfl) ?_
                · first | exact Nat.zero_lt_one | assumption | omega | exact InI.of (by omega) (by omega) | (simp only [ints_len, bools_len, st1_len, arcs_len, lits_len, List.length_set, List.length_append, List.length_cons, List.length_nil, List.length_replicate]; omega)
                refine GoP.one1 rfl trivial (ef_store rfl rfl rfl (by first | exact At.p0 | exact At.p1 | exact At.p2 | exact At.p3 | exact At.p4 | exact At.p5 | exact At.p6 | exact At.p7 | exact At.p8 | exact At.p9 | exact At.p10 | exact At.p11 | exact At.p12 | exact At.p13) (by first | exact upd_ints | exact upd_bools | exact upd_st1) ?_ rfl) (by exact (Take.cons _ _ _ _ _ (by first | exact Rem.p0 | exact Rem.p1 | exact Rem.p2 | exact Rem.p3 | exact Rem.p4 | exact Rem.p5 | exact Rem.p6 | exact Rem.p7 | exact Rem.p8 | exact Rem.p9 | exact Rem.p10 | exact Rem.p11 | exact Rem.p12 | exact Rem.p13) (Take.cons _ _ _ _ _ (by first | exact Rem.p0 | exact Rem.p1 | exact Rem.p2 | exact Rem.p3 | exact Rem.p4 | exact Rem.p5 | exact Rem.p6 | exact Rem.p7 | exact Rem.p8 | exact Rem.p9 | exact Rem.p10 | exact Rem.p11 | exact Rem.p12 | exact Rem.p13) (Take.cons _ _ _ _ _ (by first | exact Rem.p0 | exact Rem.p1 | exact Rem.p2 | exact Rem.p3 | exact Rem.p4 | exact Rem.p5 | exact Rem.p6 | exact Rem.p7 | exact Rem.p8 | exact Rem.p9 | exact Rem.p10 | exact Rem.p11 | exact Rem.p12 | exact Rem.p13) (Take.nil _))))) ?_
                · first | exact Nat.zero_lt_one | assumption | omega | exact InI.of (by omega) (by omega) | (simp only [ints_len, bools_len, st1_len, arcs_len, lits_len, List.length_set, List.length_append, List.length_cons, List.length_nil, List.length_replicate]; omega)
                refine GoP.done ?_
                refine GoK.blk ?_
                refine GoK.code ?_
                refine GoC.region ?_
                refine GoO.pure (ps_add rfl rfl rfl ?_) ?_
                · first | exact Nat.zero_lt_one | assumption | omega | exact InI.of (by omega) (by omega) | (simp only [ints_len, bools_len, st1_len, arcs_len, lits_len, List.length_set, List.length_append, List.length_cons, List.length_nil, List.length_replicate]; omega)
                refine GoO.pure (ps_move rfl rfl) ?_
                refine GoO.nil ?_
                refine GoK.againE (g.as.length - (k + 1)) ((k + 1, _)) ?_ ?_ (by repeat (first | exact EnvLe.nil | refine EnvLe.cons rfl ?_)) (by repeat (first | exact Tk.all _ | exact Tk.nil | refine Tk.cons (by first | exact Rem.p0 | exact Rem.p1 | exact Rem.p2 | exact Rem.p3 | exact Rem.p4 | exact Rem.p5 | exact Rem.p6 | exact Rem.p7 | exact Rem.p8 | exact Rem.p9 | exact Rem.p10 | exact Rem.p11 | exact Rem.p12 | exact Rem.p13) ?_))
                · omega
                · exact ⟨rfl, hI.step hlt (by rintro (h | ⟨h, h2⟩) <;> first | rfl | exact decide_eq_true (by omega) | (exfalso; simp only [at0] at h h2; omega) | simp_all) (by omega)⟩
              · skip
                refine GoP.qF rfl rfl rfl rfl rfl ?_
                refine GoP.qF rfl rfl rfl rfl rfl ?_
                refine GoP.qF rfl rfl rfl rfl rfl ?_
                refine GoP.qF rfl rfl rfl rfl rfl ?_
                refine GoP.qF rfl rfl rfl rfl rfl ?_
                refine GoP.qF rfl rfl rfl rfl rfl ?_
                refine GoP.qF rfl rfl rfl rfl rfl ?_
                refine GoP.qF rfl rfl rfl rfl rfl ?_
                refine GoP.qF rfl rfl rfl rfl rfl ?_
                refine GoP.qF rfl rfl rfl rfl rfl ?_
                refine GoP.qF rfl rfl rfl rfl rfl ?_
                refine GoP.qF rfl rfl rfl rfl rfl ?_
                refine GoP.qT rfl rfl rfl rfl (ps_pickF rfl rfl rfl) ?_
                refine GoP.qN rfl (ps_pickF rfl rfl rfl) ?_
                first | refine GoP.qN rfl (ps_indexAddr0N rfl rfl ?_ rfl) ?_ | refine GoP.qN rfl (ps_indexAddrRN rfl rfl ?_ rfl) ?_ | refine GoP.qN rfl (ps_indexAddr0 rfl rfl ?_ rfl) ?_ | refine GoP.qN rfl (ps_indexAddrN rfl rfl ?_ rfl) ?_ | refine GoP.qN rfl (ps_indexAddr rfl rfl ?_ rfl) ?_ | refine GoP.qN rfl (ps_indexAddrR rfl rfl ?_ rfl) ?_
                · first | exact Nat.zero_lt_one | assumption | omega | exact InI.of (by omega) (by omega) | (simp only [ints_len, bools_len, st1_len, arcs_len, lits_len, List.length_set, List.length_append, List.length_cons, List.length_nil, List.length_replicate]; omega)
                refine GoP.one1 rfl trivial (ef_store rfl rfl rfl (by first | exact At.p0 | exact At.p1 | exact At.p2 | exact At.p3 | exact At.p4 | exact At.p5 | exact At.p6 | exact At.p7 | exact At.p8 | exact At.p9 | exact At.p10 | exact At.p11 | exact At.p12 | exact At.p13) (by first | exact upd_ints | exact upd_bools | exact upd_st1) ?_ rfl) (by exact (Take.cons _ _ _ _ _ (by first | exact Rem.p0 | exact Rem.p1 | exact Rem.p2 | exact Rem.p3 | exact Rem.p4 | exact Rem.p5 | exact Rem.p6 | exact Rem.p7 | exact Rem.p8 | exact Rem.p9 | exact Rem.p10 | exact Rem.p11 | exact Rem.p12 | exact Rem.p13) (Take.cons _ _ _ _ _ (by first | exact Rem.p0 | exact Rem.p1 | exact Rem.p2 | exact Rem.p3 | exact Rem.p4 | exact Rem.p5 | exact Rem.p6 | exact Rem.p7 | exact Rem.p8 | exact Rem.p9 | exact Rem.p10 | exact Rem.p11 | exact Rem.p12 | exact Rem.p13) (Take.cons _ _ _ _ _ (by first | exact Rem.p0 | exact Rem.p1 | exact Rem.p2 | exact Rem.p3 | exact Rem.p4 | exact Rem.p5 | exact Rem.p6 | exact Rem.p7 | exact Rem.p8 | exact Rem.p9 | exact Rem.p10 | exact Rem.p11 | exact Rem.p12 | exact Rem.p13) (Take.nil _))))) ?_
                · first | exact Nat.zero_lt_one | assumption | omega | exact InI.of (by omega) (by omega) | (simp only [ints_len, bools_len, st1_len, arcs_len, lits_len, List.length_set, List.length_append, List.length_cons, List.length_nil, List.length_replicate]; omega)
                refine GoP.done ?_
                refine GoK.blk ?_
                refine GoK.code ?_
                refine GoC.region ?_
                refine GoO.pure (ps_add rfl rfl rfl ?_) ?_
                · first | exact Nat.zero_lt_one | assumption | omega | exact InI.of (by omega) (by omega) | (simp only [ints_len, bools_len, st1_len, arcs_len, lits_len, List.length_set, List.length_append, List.length_cons, List.length_nil, List.length_replicate]; omega)
                refine GoO.pure (ps_move rfl rfl) ?_
                refine GoO.nil ?_
                refine GoK.againE (g.as.length - (k + 1)) ((k + 1, _)) ?_ ?_ (by repeat (first | exact EnvLe.nil | refine EnvLe.cons rfl ?_)) (by repeat (first | exact Tk.all _ | exact Tk.nil | refine Tk.cons (by first | exact Rem.p0 | exact Rem.p1 | exact Rem.p2 | exact Rem.p3 | exact Rem.p4 | exact Rem.p5 | exact Rem.p6 | exact Rem.p7 | exact Rem.p8 | exact Rem.p9 | exact Rem.p10 | exact Rem.p11 | exact Rem.p12 | exact Rem.p13) ?_))
                · omega
                · exact ⟨rfl, hI.step hlt (by rintro (h | ⟨h, h2⟩) <;> first | rfl | exact decide_eq_true (by omega) | (exfalso; simp only [at0] at h h2; omega) | simp_all) (by omega)⟩
        · skip
          have ek : k = g.as.length := by omega
          subst ek
          refine GoC.exit rfl ?_
          refine GoK.code ?_
          refine GoC.seq ?_
          refine GoC.seq ?_
          refine GoC.region ?_
          refine GoO.pure (ps_move rfl rfl) ?_
          refine GoO.pure (ps_len rfl (by constructor) rfl) ?_
          refine GoO.pure (ps_move rfl rfl) ?_
          refine GoO.nil ?_
          refine GoK.code ?_
          refine GoC.block ?_
          refine GoC.loopE (σ := Nat) [1, 2, 7, 110, 111] (fun j => [(112, .i (j : Int))]) (fun j => []) (fun n j => n = g.n.toNat - j ∧ j ≤ g.n.toNat) (g.n.toNat) 0 ?_ (by repeat (first | exact EnvLe.nil | refine EnvLe.cons rfl ?_)) (by exact (Take.nil _)) ?_
          · exact ⟨rfl, Nat.zero_le _⟩
          rintro n j ⟨rfl, hj⟩
          refine GoC.seq ?_
          refine GoC.region ?_
          refine GoO.pure (ps_lss rfl rfl rfl) ?_
          refine GoO.nil ?_
          refine GoK.code ?_
          refine GoC.seq ?_
          first | refine GoC.condD rfl (fun h187 => ?_) (fun h187 => ?_) | refine GoC.cond rfl (fun h187 => ?_) (fun h187 => ?_)
          · skip
            have hlt : j < g.n.toNat := by omega
            have c1 := hf.hi (j : Int)
            have c2 := hf.zero (j : Int) (by omega) (by omega)
            simp only [at0, Int.toNat_natCast] at c1 c2
            refine GoC.skip ?_
            refine GoK.code ?_
            refine GoC.seq ?_
            refine GoC.block ?_
            refine GoC.seq ?_
            refine GoC.region ?_
            refine GoO.pure (ps_move rfl rfl) ?_
            first | refine GoO.pure (ps_indexAddr0N rfl rfl ?_ rfl) ?_ | refine GoO.pure (ps_indexAddrRN rfl rfl ?_ rfl) ?_ | refine GoO.pure (ps_indexAddr0 rfl rfl ?_ rfl) ?_ | refine GoO.pure (ps_indexAddrN rfl rfl ?_ rfl) ?_ | refine GoO.pure (ps_indexAddr rfl rfl ?_ rfl) ?_ | refine GoO.pure (ps_indexAddrR rfl rfl ?_ rfl) ?_
            · first | exact Nat.zero_lt_one | assumption | omega | exact InI.of (by omega) (by omega) | (simp only [ints_len, bools_len, st1_len, arcs_len, lits_len, List.length_set, List.length_append, List.length_cons, List.length_nil, List.length_replicate]; omega)
            first | refine GoO.pure (ps_load rfl (by first | exact At.p0 | exact At.p1 | exact At.p2 | exact At.p3 | exact At.p4 | exact At.p5 | exact At.p6 | exact At.p7 | exact At.p8 | exact At.p9 | exact At.p10 | exact At.p11 | exact At.p12 | exact At.p13) (by first | exact At.p0 | exact At.p1 | exact At.p2 | exact At.p3 | exact At.p4 | exact At.p5 | exact At.p6 | exact At.p7 | exact At.p8 | exact At.p9 | exact At.p10 | exact At.p11 | exact At.p12 | exact At.p13) ?_ rfl rfl) ?_ | refine GoO.pure (ps_loadR rfl ?_ rfl rfl) ?_
            · first | exact Nat.zero_lt_one | assumption | omega | exact InI.of (by omega) (by omega) | (simp only [ints_len, bools_len, st1_len, arcs_len, lits_len, List.length_set, List.length_append, List.length_cons, List.length_nil, List.length_replicate]; omega)
            refine GoO.pure (ps_assign rfl rfl) ?_
            refine GoO.pure (ps_assign rfl rfl) ?_
            refine GoO.nil ?_
            refine GoK.code ?_
            refine GoC.seq ?_
            refine GoC.region ?_
            refine GoO.pure (ps_move rfl rfl) ?_
            refine GoO.pure (ps_gtr rfl rfl rfl) ?_
            refine GoO.pure (ps_move rfl rfl) ?_
            first | refine GoO.guardD rfl rfl rfl rfl (fun h196 => ?_) (fun h196 => ?_) | refine GoO.guard rfl rfl rfl rfl (fun h196 => ?_) (fun h196 => ?_)
            · skip
              refine GoO.pure (ps_move rfl rfl) ?_
              refine GoO.guardT rfl rfl rfl ?_
              refine GoO.pure (ps_move rfl rfl) ?_
              refine GoO.guardT rfl rfl rfl ?_
              first | refine GoO.pure (ps_indexAddr0N rfl rfl ?_ rfl) ?_ | refine GoO.pure (ps_indexAddrRN rfl rfl ?_ rfl) ?_ | refine GoO.pure (ps_indexAddr0 rfl rfl ?_ rfl) ?_ | refine GoO.pure (ps_indexAddrN rfl rfl ?_ rfl) ?_ | refine GoO.pure (ps_indexAddr rfl rfl ?_ rfl) ?_ | refine GoO.pure (ps_indexAddrR rfl rfl ?_ rfl) ?_
              · first | exact Nat.zero_lt_one | assumption | omega | exact InI.of (by omega) (by omega) | (simp only [ints_len, bools_len, st1_len, arcs_len, lits_len, List.length_set, List.length_append, List.length_cons, List.length_nil, List.length_replicate]; omega)
              refine GoO.guardT rfl rfl rfl ?_
              first | refine GoO.pure (ps_load rfl (by first | exact At.p0 | exact At.p1 | exact At.p2 | exact At.p3 | exact At.p4 | exact At.p5 | exact At.p6 | exact At.p7 | exact At.p8 | exact At.p9 | exact At.p10 | exact At.p11 | exact At.p12 | exact At.p13) (by first | exact At.p0 | exact At.p1 | exact At.p2 | exact At.p3 | exact At.p4 | exact At.p5 | exact At.p6 | exact At.p7 | exact At.p8 | exact At.p9 | exact At.p10 | exact At.p11 | exact At.p12 | exact At.p13) ?_ rfl rfl) ?_ | refine GoO.pure (ps_loadR rfl ?_ rfl rfl) ?_
              · first | exact Nat.zero_lt_one | assumption | omega | exact InI.of (by omega) (by omega) | (simp only [ints_len, bools_len, st1_len, arcs_len, lits_len, List.length_set, List.length_append, List.length_cons, List.length_nil, List.length_replicate]; omega)
              refine GoO.guardT rfl rfl rfl ?_
              first | refine GoO.pure (ps_notD rfl rfl) ?_ | refine GoO.pure (ps_not rfl rfl) ?_
              refine GoO.pure (ps_pickT rfl rfl rfl) ?_
              refine GoO.pure (ps_move rfl rfl) ?_
              first | refine GoO.guardE rfl rfl rfl rfl (fun h204 => ?_) (fun h204 => ?_) | refine GoO.guard rfl rfl rfl rfl (fun h204 => ?_) (fun h204 => ?_)
              · skip
                refine GoO.pure (ps_move rfl rfl) ?_
                refine GoO.guardT rfl rfl rfl ?_
                first | refine GoO.pure (ps_eql rfl rfl rfl) ?_ | refine GoO.pure (ps_eqlB rfl rfl rfl) ?_ | refine GoO.pure (ps_eqlA rfl rfl rfl rfl) ?_
                refine GoO.guardT rfl rfl rfl ?_
                refine GoO.pure (ps_move rfl rfl) ?_
                first | refine GoO.guardD rfl rfl rfl rfl (fun h208 => ?_) (fun h208 => ?_) | refine GoO.guard rfl rfl rfl rfl (fun h208 => ?_) (fun h208 => ?_)
                · skip
                  refine GoO.pure (ps_move rfl rfl) ?_
                  refine GoO.guardT rfl rfl rfl ?_
                  refine GoO.pure (ps_move rfl rfl) ?_
                  refine GoO.guardT rfl rfl rfl ?_
                  first | refine GoO.pure (ps_neq rfl rfl rfl) ?_ | refine GoO.pure (ps_neqB rfl rfl rfl) ?_ | refine GoO.pure (ps_neqA rfl rfl rfl rfl) ?_
                  refine GoO.guardT rfl rfl rfl ?_
                  refine GoO.pure (ps_pickT rfl rfl rfl) ?_
                  refine GoO.pure (ps_pickF rfl rfl rfl) ?_
                  refine GoO.pure (ps_move rfl rfl) ?_
                  first | refine GoO.guardE rfl rfl rfl rfl (fun h215 => ?_) (fun h215 => ?_) | refine GoO.guard rfl rfl rfl rfl (fun h215 => ?_) (fun h215 => ?_)
                  · skip
                    refine GoO.pure (ps_move rfl rfl) ?_
                    refine GoO.guardT rfl rfl rfl ?_
                    first | refine GoO.pure (ps_fieldAddr rfl rfl) ?_ | refine GoO.pure (ps_fieldAddrR rfl rfl) ?_
                    refine GoO.guardT rfl rfl rfl ?_
                    first | refine GoO.pure (ps_load rfl (by first | exact At.p0 | exact At.p1 | exact At.p2 | exact At.p3 | exact At.p4 | exact At.p5 | exact At.p6 | exact At.p7 | exact At.p8 | exact At.p9 | exact At.p10 | exact At.p11 | exact At.p12 | exact At.p13) (by first | exact At.p0 | exact At.p1 | exact At.p2 | exact At.p3 | exact At.p4 | exact At.p5 | exact At.p6 | exact At.p7 | exact At.p8 | exact At.p9 | exact At.p10 | exact At.p11 | exact At.p12 | exact At.p13) ?_ rfl rfl) ?_ | refine GoO.pure (ps_loadR rfl ?_ rfl rfl) ?_
                    · first | exact Nat.zero_lt_one | assumption | omega | exact InI.of (by omega) (by omega) | (simp only [ints_len, bools_len, st1_len, arcs_len, lits_len, List.length_set, List.length_append, List.length_cons, List.length_nil, List.length_replicate]; omega)
                    refine GoO.guardT rfl rfl rfl ?_
                    refine GoO.pure (ps_geq rfl rfl rfl) ?_
                    refine GoO.pure (ps_pickF rfl rfl rfl) ?_
                    refine GoO.nil ?_
                    refine GoK.code ?_
                    first | refine GoC.condD rfl (fun h221 => ?_) (fun h221 => ?_) | refine GoC.cond rfl (fun h221 => ?_) (fun h221 => ?_)
                    · skip
                      refine GoC.seq ?_
                      refine GoC.region ?_
                      refine GoO.pure (ps_assign rfl rfl) ?_
                      refine GoO.nil ?_
                      refine GoK.code ?_
                      refine GoC.ret1 (H' := []) Try.results8 (ResD.tmp rfl) (by exact (Take.nil _)) ?_
                      · exfalso; first | omega | (have k1 := hitw_all hf hI hlt (by omega); simp_all)
                    · skip
                      refine GoC.skip ?_
                      refine GoK.blk ?_
                      refine GoK.code ?_
                      refine GoC.region ?_
                      refine GoO.pure (ps_add rfl rfl rfl ?_) ?_
                      · first | exact Nat.zero_lt_one | assumption | omega | exact InI.of (by omega) (by omega) | (simp only [ints_len, bools_len, st1_len, arcs_len, lits_len, List.length_set, List.length_append, List.length_cons, List.length_nil, List.length_replicate]; omega)
                      refine GoO.pure (ps_move rfl rfl) ?_
                      refine GoO.nil ?_
                      refine GoK.againE (g.n.toNat - (j + 1)) (j + 1) ?_ ?_ (by repeat (first | exact EnvLe.nil | refine EnvLe.cons rfl ?_)) (by repeat (first | exact Tk.all _ | exact Tk.nil | refine Tk.cons (by first | exact Rem.p0 | exact Rem.p1 | exact Rem.p2 | exact Rem.p3 | exact Rem.p4 | exact Rem.p5 | exact Rem.p6 | exact Rem.p7 | exact Rem.p8 | exact Rem.p9 | exact Rem.p10 | exact Rem.p11 | exact Rem.p12 | exact Rem.p13) ?_))
                      · omega
                      · exact ⟨rfl, hlt⟩
                  · skip
                    refine GoO.guardF rfl rfl rfl rfl ?_
                    refine GoO.guardF rfl rfl rfl rfl ?_
                    refine GoO.guardF rfl rfl rfl rfl ?_
                    refine GoO.pure (ps_pickT rfl rfl rfl) ?_
                    refine GoO.nil ?_
                    refine GoK.code ?_
                    refine GoC.condT rfl ?_
                    refine GoC.seq ?_
                    refine GoC.region ?_
                    refine GoO.pure (ps_assign rfl rfl) ?_
                    refine GoO.nil ?_
                    refine GoK.code ?_
                    refine GoC.ret1 (H' := []) Try.results8 (ResD.tmp rfl) (by exact (Take.nil _)) ?_
                    · exfalso; first | omega | (have k1 := hitw_all hf hI hlt (by omega); simp_all)
                · skip
                  refine GoO.guardF rfl rfl rfl rfl ?_
                  refine GoO.guardF rfl rfl rfl rfl ?_
                  refine GoO.guardT rfl rfl rfl ?_
                  refine GoO.pure (ps_pickF rfl rfl rfl) ?_
                  refine GoO.pure (ps_pickF rfl rfl rfl) ?_
                  refine GoO.pure (ps_move rfl rfl) ?_
                  refine GoO.guardT rfl rfl rfl ?_
                  refine GoO.pure (ps_move rfl rfl) ?_
                  refine GoO.guardT rfl rfl rfl ?_
                  first | refine GoO.pure (ps_fieldAddr rfl rfl) ?_ | refine GoO.pure (ps_fieldAddrR rfl rfl) ?_
                  refine GoO.guardT rfl rfl rfl ?_
                  first | refine GoO.pure (ps_load rfl (by first | exact At.p0 | exact At.p1 | exact At.p2 | exact At.p3 | exact At.p4 | exact At.p5 | exact At.p6 | exact At.p7 | exact At.p8 | exact At.p9 | exact At.p10 | exact At.p11 | exact At.p12 | exact At.p13) (by first | exact At.p0 | exact At.p1 | exact At.p2 | exact At.p3 | exact At.p4 | exact At.p5 | exact At.p6 | exact At.p7 | exact At.p8 | exact At.p9 | exact At.p10 | exact At.p11 | exact At.p12 | exact At.p13) ?_ rfl rfl) ?_ | refine GoO.pure (ps_loadR rfl ?_ rfl rfl) ?_
                  · first | exact Nat.zero_lt_one | assumption | omega | exact InI.of (by omega) (by omega) | (simp only [ints_len, bools_len, st1_len, arcs_len, lits_len, List.length_set, List.length_append, List.length_cons, List.length_nil, List.length_replicate]; omega)
                  refine GoO.guardT rfl rfl rfl ?_
                  refine GoO.pure (ps_geq rfl rfl rfl) ?_
                  refine GoO.pure (ps_pickF rfl rfl rfl) ?_
                  refine GoO.nil ?_
                  refine GoK.code ?_
                  first | refine GoC.condD rfl (fun h235 => ?_) (fun h235 => ?_) | refine GoC.cond rfl (fun h235 => ?_) (fun h235 => ?_)
                  · skip
                    refine GoC.seq ?_
                    refine GoC.region ?_
                    refine GoO.pure (ps_assign rfl rfl) ?_
                    refine GoO.nil ?_
                    refine GoK.code ?_
                    refine GoC.ret1 (H' := []) Try.results8 (ResD.tmp rfl) (by exact (Take.nil _)) ?_
                    · exfalso; first | omega | (have k1 := hitw_all hf hI hlt (by omega); simp_all)
                  · skip
                    refine GoC.skip ?_
                    refine GoK.blk ?_
                    refine GoK.code ?_
                    refine GoC.region ?_
                    refine GoO.pure (ps_add rfl rfl rfl ?_) ?_
                    · first | exact Nat.zero_lt_one | assumption | omega | exact InI.of (by omega) (by omega) | (simp only [ints_len, bools_len, st1_len, arcs_len, lits_len, List.length_set, List.length_append, List.length_cons, List.length_nil, List.length_replicate]; omega)
                    refine GoO.pure (ps_move rfl rfl) ?_
                    refine GoO.nil ?_
                    refine GoK.againE (g.n.toNat - (j + 1)) (j + 1) ?_ ?_ (by repeat (first | exact EnvLe.nil | refine EnvLe.cons rfl ?_)) (by repeat (first | exact Tk.all _ | exact Tk.nil | refine Tk.cons (by first | exact Rem.p0 | exact Rem.p1 | exact Rem.p2 | exact Rem.p3 | exact Rem.p4 | exact Rem.p5 | exact Rem.p6 | exact Rem.p7 | exact Rem.p8 | exact Rem.p9 | exact Rem.p10 | exact Rem.p11 | exact Rem.p12 | exact Rem.p13) ?_))
                    · omega
                    · exact ⟨rfl, hlt⟩
              · skip
                refine GoO.guardF rfl rfl rfl rfl ?_
                refine GoO.guardF rfl rfl rfl rfl ?_
                refine GoO.guardU rfl rfl rfl rfl ?_
                refine GoO.guardU rfl rfl rfl rfl ?_
                refine GoO.guardU rfl rfl rfl rfl ?_
                refine GoO.guardF rfl rfl rfl rfl ?_
                refine GoO.pure (ps_pickT rfl rfl rfl) ?_
                refine GoO.pure (ps_move rfl rfl) ?_
                refine GoO.guardF rfl rfl rfl rfl ?_
                refine GoO.guardF rfl rfl rfl rfl ?_
                refine GoO.guardF rfl rfl rfl rfl ?_
                refine GoO.guardF rfl rfl rfl rfl ?_
                refine GoO.pure (ps_pickT rfl rfl rfl) ?_
                refine GoO.nil ?_
                refine GoK.code ?_
                refine GoC.condT rfl ?_
                refine GoC.seq ?_
                refine GoC.region ?_
                refine GoO.pure (ps_assign rfl rfl) ?_
                refine GoO.nil ?_
                refine GoK.code ?_
                refine GoC.ret1 (H' := []) Try.results8 (ResD.tmp rfl) (by exact (Take.nil _)) ?_
                · exfalso; first | omega | (have k1 := hitw_all hf hI hlt (by omega); simp_all)
            · skip
              refine GoO.guardF rfl rfl rfl rfl ?_
              refine GoO.guardF rfl rfl rfl rfl ?_
              refine GoO.guardF rfl rfl rfl rfl ?_
              refine GoO.guardF rfl rfl rfl rfl ?_
              refine GoO.pure (ps_pickF rfl rfl rfl) ?_
              refine GoO.pure (ps_move rfl rfl) ?_
              refine GoO.guardT rfl rfl rfl ?_
              refine GoO.pure (ps_move rfl rfl) ?_
              refine GoO.guardT rfl rfl rfl ?_
              first | refine GoO.pure (ps_eql rfl rfl rfl) ?_ | refine GoO.pure (ps_eqlB rfl rfl rfl) ?_ | refine GoO.pure (ps_eqlA rfl rfl rfl rfl) ?_
              refine GoO.guardT rfl rfl rfl ?_
              refine GoO.pure (ps_move rfl rfl) ?_
              first | refine GoO.guardD rfl rfl rfl rfl (fun h248 => ?_) (fun h248 => ?_) | refine GoO.guard rfl rfl rfl rfl (fun h248 => ?_) (fun h248 => ?_)
              · skip
                refine GoO.pure (ps_move rfl rfl) ?_
                refine GoO.guardT rfl rfl rfl ?_
                refine GoO.pure (ps_move rfl rfl) ?_
                refine GoO.guardT rfl rfl rfl ?_
                first | refine GoO.pure (ps_neq rfl rfl rfl) ?_ | refine GoO.pure (ps_neqB rfl rfl rfl) ?_ | refine GoO.pure (ps_neqA rfl rfl rfl rfl) ?_
                refine GoO.guardT rfl rfl rfl ?_
                refine GoO.pure (ps_pickT rfl rfl rfl) ?_
                refine GoO.pure (ps_pickF rfl rfl rfl) ?_
                refine GoO.pure (ps_move rfl rfl) ?_
                first | refine GoO.guardE rfl rfl rfl rfl (fun h255 => ?_) (fun h255 => ?_) | refine GoO.guard rfl rfl rfl rfl (fun h255 => ?_) (fun h255 => ?_)
                · skip
                  refine GoO.pure (ps_move rfl rfl) ?_
                  refine GoO.guardT rfl rfl rfl ?_
                  first | refine GoO.pure (ps_fieldAddr rfl rfl) ?_ | refine GoO.pure (ps_fieldAddrR rfl rfl) ?_
                  refine GoO.guardT rfl rfl rfl ?_
                  first | refine GoO.pure (ps_load rfl (by first | exact At.p0 | exact At.p1 | exact At.p2 | exact At.p3 | exact At.p4 | exact At.p5 | exact At.p6 | exact At.p7 | exact At.p8 | exact At.p9 | exact At.p10 | exact At.p11 | exact At.p12 | exact At.p13) (by first | exact At.p0 | exact At.p1 | exact At.p2 | exact At.p3 | exact At.p4 | exact At.p5 | exact At.p6 | exact At.p7 | exact At.p8 | exact At.p9 | exact At.p10 | exact At.p11 | exact At.p12 | exact At.p13) ?_ rfl rfl) ?_ | refine GoO.pure (ps_loadR rfl ?_ rfl rfl) ?_
                  · first | exact Nat.zero_lt_one | assumption | omega | exact InI.of (by omega) (by omega) | (simp only [ints_len, bools_len, st1_len, arcs_len, lits_len, List.length_set, List.length_append, List.length_cons, List.length_nil, List.length_replicate]; omega)
                  refine GoO.guardT rfl rfl rfl ?_
                  refine GoO.pure (ps_geq rfl rfl rfl) ?_
                  refine GoO.pure (ps_pickF rfl rfl rfl) ?_
                  refine GoO.nil ?_
                  refine GoK.code ?_
                  first | refine GoC.condD rfl (fun h261 => ?_) (fun h261 => ?_) | refine GoC.cond rfl (fun h261 => ?_) (fun h261 => ?_)
                  · skip
                    refine GoC.seq ?_
                    refine GoC.region ?_
                    refine GoO.pure (ps_assign rfl rfl) ?_
                    refine GoO.nil ?_
                    refine GoK.code ?_
                    refine GoC.ret1 (H' := []) Try.results8 (ResD.tmp rfl) (by exact (Take.nil _)) ?_
                    · exfalso; first | omega | (have k1 := hitw_all hf hI hlt (by omega); simp_all)
                  · skip
                    refine GoC.skip ?_
                    refine GoK.blk ?_
                    refine GoK.code ?_
                    refine GoC.region ?_
                    refine GoO.pure (ps_add rfl rfl rfl ?_) ?_
                    · first | exact Nat.zero_lt_one | assumption | omega | exact InI.of (by omega) (by omega) | (simp only [ints_len, bools_len, st1_len, arcs_len, lits_len, List.length_set, List.length_append, List.length_cons, List.length_nil, List.length_replicate]; omega)
                    refine GoO.pure (ps_move rfl rfl) ?_
                    refine GoO.nil ?_
                    refine GoK.againE (g.n.toNat - (j + 1)) (j + 1) ?_ ?_ (by repeat (first | exact EnvLe.nil | refine EnvLe.cons rfl ?_)) (by repeat (first | exact Tk.all _ | exact Tk.nil | refine Tk.cons (by first | exact Rem.p0 | exact Rem.p1 | exact Rem.p2 | exact Rem.p3 | exact Rem.p4 | exact Rem.p5 | exact Rem.p6 | exact Rem.p7 | exact Rem.p8 | exact Rem.p9 | exact Rem.p10 | exact Rem.p11 | exact Rem.p12 | exact Rem.p13) ?_))
                    · omega
                    · exact ⟨rfl, hlt⟩
                · skip
                  refine GoO.guardF rfl rfl rfl rfl ?_
                  refine GoO.guardF rfl rfl rfl rfl ?_
                  refine GoO.guardF rfl rfl rfl rfl ?_
                  refine GoO.pure (ps_pickT rfl rfl rfl) ?_
                  refine GoO.nil ?_
                  refine GoK.code ?_
                  refine GoC.condT rfl ?_
                  refine GoC.seq ?_
                  refine GoC.region ?_
                  refine GoO.pure (ps_assign rfl rfl) ?_
                  refine GoO.nil ?_
                  refine GoK.code ?_
                  refine GoC.ret1 (H' := []) Try.results8 (ResD.tmp rfl) (by exact (Take.nil _)) ?_
                  · exfalso; first | omega | (have k1 := hitw_all hf hI hlt (by omega); simp_all)
              · skip
                refine GoO.guardF rfl rfl rfl rfl ?_
                refine GoO.guardF rfl rfl rfl rfl ?_
                refine GoO.guardT rfl rfl rfl ?_
                refine GoO.pure (ps_pickF rfl rfl rfl) ?_
                refine GoO.pure (ps_pickF rfl rfl rfl) ?_
                refine GoO.pure (ps_move rfl rfl) ?_
                refine GoO.guardT rfl rfl rfl ?_
                refine GoO.pure (ps_move rfl rfl) ?_
                refine GoO.guardT rfl rfl rfl ?_
                first | refine GoO.pure (ps_fieldAddr rfl rfl) ?_ | refine GoO.pure (ps_fieldAddrR rfl rfl) ?_
                refine GoO.guardT rfl rfl rfl ?_
                first | refine GoO.pure (ps_load rfl (by first | exact At.p0 | exact At.p1 | exact At.p2 | exact At.p3 | exact At.p4 | exact At.p5 | exact At.p6 | exact At.p7 | exact At.p8 | exact At.p9 | exact At.p10 | exact At.p11 | exact At.p12 | exact At.p13) (by first | exact At.p0 | exact At.p1 | exact At.p2 | exact At.p3 | exact At.p4 | exact At.p5 | exact At.p6 | exact At.p7 | exact At.p8 | exact At.p9 | exact At.p10 | exact At.p11 | exact At.p12 | exact At.p13) ?_ rfl rfl) ?_ | refine GoO.pure (ps_loadR rfl ?_ rfl rfl) ?_
                · first | exact Nat.zero_lt_one | assumption | omega | exact InI.of (by omega) (by omega) | (simp only [ints_len, bools_len, st1_len, arcs_len, lits_len, List.length_set, List.length_append, List.length_cons, List.length_nil, List.length_replicate]; omega)
                refine GoO.guardT rfl rfl rfl ?_
                refine GoO.pure (ps_geq rfl rfl rfl) ?_
                refine GoO.pure (ps_pickF rfl rfl rfl) ?_
                refine GoO.nil ?_
                refine GoK.code ?_
                first | refine GoC.condD rfl (fun h275 => ?_) (fun h275 => ?_) | refine GoC.cond rfl (fun h275 => ?_) (fun h275 => ?_)
                · skip
                  refine GoC.seq ?_
                  refine GoC.region ?_
                  refine GoO.pure (ps_assign rfl rfl) ?_
                  refine GoO.nil ?_
                  refine GoK.code ?_
                  refine GoC.ret1 (H' := []) Try.results8 (ResD.tmp rfl) (by exact (Take.nil _)) ?_
                  · exfalso; first | omega | (have k1 := hitw_all hf hI hlt (by omega); simp_all)
                · skip
                  refine GoC.skip ?_
                  refine GoK.blk ?_
                  refine GoK.code ?_
                  refine GoC.region ?_
                  refine GoO.pure (ps_add rfl rfl rfl ?_) ?_
                  · first | exact Nat.zero_lt_one | assumption | omega | exact InI.of (by omega) (by omega) | (simp only [ints_len, bools_len, st1_len, arcs_len, lits_len, List.length_set, List.length_append, List.length_cons, List.length_nil, List.length_replicate]; omega)
                  refine GoO.pure (ps_move rfl rfl) ?_
                  refine GoO.nil ?_
                  refine GoK.againE (g.n.toNat - (j + 1)) (j + 1) ?_ ?_ (by repeat (first | exact EnvLe.nil | refine EnvLe.cons rfl ?_)) (by repeat (first | exact Tk.all _ | exact Tk.nil | refine Tk.cons (by first | exact Rem.p0 | exact Rem.p1 | exact Rem.p2 | exact Rem.p3 | exact Rem.p4 | exact Rem.p5 | exact Rem.p6 | exact Rem.p7 | exact Rem.p8 | exact Rem.p9 | exact Rem.p10 | exact Rem.p11 | exact Rem.p12 | exact Rem.p13) ?_))
                  · omega
                  · exact ⟨rfl, hlt⟩
          · skip
            refine GoC.exit rfl ?_
            refine GoK.code ?_
            refine GoC.seq ?_
            refine GoC.region ?_
            refine GoO.pure (ps_assign rfl rfl) ?_
            refine GoO.nil ?_
            refine GoK.code ?_
            refine GoC.ret1 (H' := []) Try.results8 (ResD.tmp rfl) (by exact (Take.nil _)) ?_
            · exact ⟨rfl, rfl⟩
    · skip
      refine GoO.guardF rfl rfl rfl rfl ?_
      refine GoO.guardF rfl rfl rfl rfl ?_
      refine GoO.guardF rfl rfl rfl rfl ?_
      refine GoO.guardF rfl rfl rfl rfl ?_
      refine GoO.pure (ps_pickT rfl rfl rfl) ?_
      refine GoO.nil ?_
      refine GoK.code ?_
      refine GoC.condT rfl ?_
      refine GoC.seq ?_
      refine GoC.region ?_
      refine GoO.pure (ps_assign rfl rfl) ?_
      refine GoO.nil ?_
      refine GoK.code ?_
      refine GoC.ret1 (H' := []) Try.results8 (ResD.tmp rfl) (by exact (Take.nil _)) ?_
      · exfalso; omega

end Go.Proofs.Ytmgldjkgneiejaa
