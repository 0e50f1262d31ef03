/- What the functions of slices compute, by walks through their text. -/
import Derived.Test.YtmgldjkgneiejaaTys
import Derived.Test.YtmgldjkgneiejaaDat
namespace Go.Proofs.Ytmgldjkgneiejaa
open Go Go.Proofs.Ytmgldjkgneiejaa.Sx
set_option linter.unusedVariables false
set_option linter.unusedSimpArgs false

theorem eq_of_getD {α : Type} {a b : List α} {z : α} (hl : a.length = b.length) (h : ∀ i, i < a.length → a.getD i z = b.getD i z) : a = b :=
  List.ext_getElem hl fun i h1 h2 => by
    have := h i h1
    rwa [List.getD_eq_getElem?_getD, List.getD_eq_getElem?_getD, List.getElem?_eq_getElem h1, List.getElem?_eq_getElem h2] at this
set_option maxRecDepth 100000 in
set_option maxHeartbeats 400000 in
theorem equalInts_spec (a b : List Int) (hal : a.length ≤ 1000000000000) : Does Try.prog 21 [intsD a, intsD b] [] (fun d H => d = .bo (decide (a = b)) ∧ H = []) := by
  refine Does.intro Try.func21 rfl Try.ntmps21 rfl fun w0 I0 => ?_
  refine GoC.seq ?_
  refine GoC.region ?_
  refine GoO.pure (ps_assign rfl rfl) ?_
  refine GoO.nil ?_
  refine GoK.code ?_
  refine GoC.seq ?_
  refine GoC.seq ?_
  refine GoC.region ?_
  refine GoO.pure (ps_move rfl rfl) ?_
  refine GoO.pure (ps_len rfl (by constructor) rfl) ?_
  refine GoO.pure (ps_move rfl rfl) ?_
  refine GoO.pure (ps_len rfl (by constructor) rfl) ?_
  first | refine GoO.pure (ps_neq rfl rfl rfl) ?_ | refine GoO.pure (ps_neqB rfl rfl rfl) ?_ | refine GoO.pure (ps_neqA rfl rfl rfl rfl) ?_
  refine GoO.nil ?_
  refine GoK.code ?_
  first | refine GoC.condD rfl (fun h7 => ?_) (fun h7 => ?_) | refine GoC.cond rfl (fun h7 => ?_) (fun h7 => ?_)
  · skip
    refine GoC.seq ?_
    refine GoC.region ?_
    refine GoO.pure (ps_assign rfl rfl) ?_
    refine GoO.nil ?_
    refine GoK.code ?_
    refine GoC.ret1 (H' := []) Try.results21 (ResD.tmp rfl) (by exact (Take.nil _)) ?_
    · exact ⟨(bo_false fun e => by subst e; omega).symm, rfl⟩
  · skip
    refine GoC.skip ?_
    refine GoK.code ?_
    refine GoC.seq ?_
    refine GoC.seq ?_
    refine GoC.region ?_
    refine GoO.pure (ps_move rfl rfl) ?_
    refine GoO.pure (ps_len rfl (by constructor) rfl) ?_
    refine GoO.pure (ps_move rfl rfl) ?_
    refine GoO.nil ?_
    refine GoK.code ?_
    refine GoC.block ?_
    have hlab : a.length = b.length := by omega
    refine GoC.loopE (σ := Nat) [0, 1, 12] (fun k => [(13, .i (k : Int))]) (fun k => []) (fun n k => n = a.length - k ∧ k ≤ a.length ∧ ∀ i, i < k → a.getD i 0 = b.getD i 0) (a.length) 0 ?_ (by repeat (first | exact EnvLe.nil | refine EnvLe.cons rfl ?_)) (by exact (Take.nil _)) ?_
    · exact ⟨by omega, by omega, fun i hi => absurd hi (by omega)⟩
    rintro n k ⟨rfl, hk, hE⟩
    refine GoC.seq ?_
    refine GoC.region ?_
    refine GoO.pure (ps_lss rfl rfl rfl) ?_
    refine GoO.nil ?_
    refine GoK.code ?_
    refine GoC.seq ?_
    first | refine GoC.condD rfl (fun h13 => ?_) (fun h13 => ?_) | refine GoC.cond rfl (fun h13 => ?_) (fun h13 => ?_)
    · skip
      have hlt : k < a.length := by omega
      refine GoC.skip ?_
      refine GoK.code ?_
      refine GoC.seq ?_
      refine GoC.block ?_
      refine GoC.seq ?_
      refine GoC.region ?_
      refine GoO.pure (ps_move rfl rfl) ?_
      refine GoO.pure (ps_assign rfl rfl) ?_
      refine GoO.nil ?_
      refine GoK.code ?_
      refine GoC.seq ?_
      refine GoC.drawA (.q 0 (.q 1 (.q 2 (.q 3 (.q 4 (.q 5 (.q 6 (.q 7 (.q 8 (.done)))))))))) follows (by kernel_rfl) ?_
      refine GoP.qN rfl (ps_move rfl rfl) ?_
      refine GoP.qN rfl (ps_move rfl rfl) ?_
      first | refine GoP.qN rfl (ps_indexAddr0N rfl rfl ?_ rfl) ?_ | refine GoP.qN rfl (ps_indexAddrRN rfl rfl ?_ rfl) ?_ | refine GoP.qN rfl (ps_indexAddr0 rfl rfl ?_ rfl) ?_ | refine GoP.qN rfl (ps_indexAddrN rfl rfl ?_ rfl) ?_ | refine GoP.qN rfl (ps_indexAddrRN rfl rfl ?_ rfl) ?_ | refine GoP.qN rfl (ps_indexAddr rfl rfl ?_ rfl) ?_ | refine GoP.qN rfl (ps_indexAddrR rfl rfl ?_ rfl) ?_
      · first | exact Nat.zero_lt_one | assumption | omega | exact InI.of (by omega) (by omega) | (simp only [ints_len, bools_len, st1_len, arcs_len, lits_len, List.length_set, List.length_append, List.length_cons, List.length_nil, List.length_replicate]; omega)
      first | refine GoP.qN rfl (ps_load rfl (by first | exact At.p0 | exact At.p1 | exact At.p2 | exact At.p3 | exact At.p4 | exact At.p5 | exact At.p6 | exact At.p7 | exact At.p8 | exact At.p9 | exact At.p10 | exact At.p11 | exact At.p12 | exact At.p13) (by first | exact At.p0 | exact At.p1 | exact At.p2 | exact At.p3 | exact At.p4 | exact At.p5 | exact At.p6 | exact At.p7 | exact At.p8 | exact At.p9 | exact At.p10 | exact At.p11 | exact At.p12 | exact At.p13) ?_ rfl rfl) ?_ | refine GoP.qN rfl (ps_loadR rfl ?_ rfl rfl) ?_
      · first | exact Nat.zero_lt_one | assumption | omega | exact InI.of (by omega) (by omega) | (simp only [ints_len, bools_len, st1_len, arcs_len, lits_len, List.length_set, List.length_append, List.length_cons, List.length_nil, List.length_replicate]; omega)
      refine GoP.qN rfl (ps_move rfl rfl) ?_
      refine GoP.qN rfl (ps_move rfl rfl) ?_
      first | refine GoP.qN rfl (ps_indexAddr0N rfl rfl ?_ rfl) ?_ | refine GoP.qN rfl (ps_indexAddrRN rfl rfl ?_ rfl) ?_ | refine GoP.qN rfl (ps_indexAddr0 rfl rfl ?_ rfl) ?_ | refine GoP.qN rfl (ps_indexAddrN rfl rfl ?_ rfl) ?_ | refine GoP.qN rfl (ps_indexAddrRN rfl rfl ?_ rfl) ?_ | refine GoP.qN rfl (ps_indexAddr rfl rfl ?_ rfl) ?_ | refine GoP.qN rfl (ps_indexAddrR rfl rfl ?_ rfl) ?_
      · first | exact Nat.zero_lt_one | assumption | omega | exact InI.of (by omega) (by omega) | (simp only [ints_len, bools_len, st1_len, arcs_len, lits_len, List.length_set, List.length_append, List.length_cons, List.length_nil, List.length_replicate]; omega)
      first | refine GoP.qN rfl (ps_load rfl (by first | exact At.p0 | exact At.p1 | exact At.p2 | exact At.p3 | exact At.p4 | exact At.p5 | exact At.p6 | exact At.p7 | exact At.p8 | exact At.p9 | exact At.p10 | exact At.p11 | exact At.p12 | exact At.p13) (by first | exact At.p0 | exact At.p1 | exact At.p2 | exact At.p3 | exact At.p4 | exact At.p5 | exact At.p6 | exact At.p7 | exact At.p8 | exact At.p9 | exact At.p10 | exact At.p11 | exact At.p12 | exact At.p13) ?_ rfl rfl) ?_ | refine GoP.qN rfl (ps_loadR rfl ?_ rfl rfl) ?_
      · first | exact Nat.zero_lt_one | assumption | omega | exact InI.of (by omega) (by omega) | (simp only [ints_len, bools_len, st1_len, arcs_len, lits_len, List.length_set, List.length_append, List.length_cons, List.length_nil, List.length_replicate]; omega)
      first | refine GoP.qN rfl (ps_neq rfl rfl rfl) ?_ | refine GoP.qN rfl (ps_neqB rfl rfl rfl) ?_ | refine GoP.qN rfl (ps_neqA rfl rfl rfl rfl) ?_
      refine GoP.done ?_
      refine GoK.code ?_
      first | refine GoC.condD rfl (fun h25 => ?_) (fun h25 => ?_) | refine GoC.cond rfl (fun h25 => ?_) (fun h25 => ?_)
      · skip
        refine GoC.seq ?_
        refine GoC.region ?_
        refine GoO.pure (ps_assign rfl rfl) ?_
        refine GoO.nil ?_
        refine GoK.code ?_
        refine GoC.ret1 (H' := []) Try.results21 (ResD.tmp rfl) (by exact (Take.nil _)) ?_
        · exact ⟨(bo_false fun e => by subst e; simp at *).symm, rfl⟩
      · skip
        refine GoC.skip ?_
        refine GoK.blk ?_
        refine GoK.code ?_
        refine GoC.region ?_
        refine GoO.pure (ps_add rfl rfl rfl ?_) ?_
        · first | exact Nat.zero_lt_one | assumption | omega | exact InI.of (by omega) (by omega) | (simp only [ints_len, bools_len, st1_len, arcs_len, lits_len, List.length_set, List.length_append, List.length_cons, List.length_nil, List.length_replicate]; omega)
        refine GoO.pure (ps_move rfl rfl) ?_
        refine GoO.nil ?_
        refine GoK.againE (a.length - (k + 1)) (k + 1) ?_ ?_ (by repeat (first | exact EnvLe.nil | refine EnvLe.cons rfl ?_)) (by repeat (first | exact Tk.all _ | exact Tk.nil | refine Tk.cons (by first | exact Rem.p0 | exact Rem.p1 | exact Rem.p2 | exact Rem.p3 | exact Rem.p4 | exact Rem.p5 | exact Rem.p6 | exact Rem.p7 | exact Rem.p8 | exact Rem.p9 | exact Rem.p10 | exact Rem.p11 | exact Rem.p12 | exact Rem.p13) ?_))
        · omega
        · exact ⟨rfl, hlt, fun i hi => if e : i = k then e ▸ (by first | exact Classical.not_not.1 ‹_› | simpa using ‹_› | omega) else hE i (by omega)⟩
    · skip
      refine GoC.exit rfl ?_
      refine GoK.code ?_
      refine GoC.seq ?_
      refine GoC.region ?_
      refine GoO.pure (ps_assign rfl rfl) ?_
      refine GoO.nil ?_
      refine GoK.code ?_
      refine GoC.ret1 (H' := []) Try.results21 (ResD.tmp rfl) (by exact (Take.nil _)) ?_
      · exact ⟨(bo_true (eq_of_getD hlab fun i hi => hE i (by omega))).symm, rfl⟩
set_option maxRecDepth 100000 in
set_option maxHeartbeats 400000 in
theorem equalBools_spec (a b : List Bool) (hal : a.length ≤ 1000000000000) : Does Try.prog 23 [boolsD a, boolsD b] [] (fun d H => d = .bo (decide (a = b)) ∧ H = []) := by
  refine Does.intro Try.func23 rfl Try.ntmps23 rfl fun w0 I0 => ?_
  refine GoC.seq ?_
  refine GoC.region ?_
  refine GoO.pure (ps_assign rfl rfl) ?_
  refine GoO.nil ?_
  refine GoK.code ?_
  refine GoC.seq ?_
  refine GoC.seq ?_
  refine GoC.region ?_
  refine GoO.pure (ps_move rfl rfl) ?_
  refine GoO.pure (ps_len rfl (by constructor) rfl) ?_
  refine GoO.pure (ps_move rfl rfl) ?_
  refine GoO.pure (ps_len rfl (by constructor) rfl) ?_
  first | refine GoO.pure (ps_neq rfl rfl rfl) ?_ | refine GoO.pure (ps_neqB rfl rfl rfl) ?_ | refine GoO.pure (ps_neqA rfl rfl rfl rfl) ?_
  refine GoO.nil ?_
  refine GoK.code ?_
  first | refine GoC.condD rfl (fun h7 => ?_) (fun h7 => ?_) | refine GoC.cond rfl (fun h7 => ?_) (fun h7 => ?_)
  · skip
    refine GoC.seq ?_
    refine GoC.region ?_
    refine GoO.pure (ps_assign rfl rfl) ?_
    refine GoO.nil ?_
    refine GoK.code ?_
    refine GoC.ret1 (H' := []) Try.results23 (ResD.tmp rfl) (by exact (Take.nil _)) ?_
    · exact ⟨(bo_false fun e => by subst e; omega).symm, rfl⟩
  · skip
    refine GoC.skip ?_
    refine GoK.code ?_
    refine GoC.seq ?_
    refine GoC.seq ?_
    refine GoC.region ?_
    refine GoO.pure (ps_move rfl rfl) ?_
    refine GoO.pure (ps_len rfl (by constructor) rfl) ?_
    refine GoO.pure (ps_move rfl rfl) ?_
    refine GoO.nil ?_
    refine GoK.code ?_
    refine GoC.block ?_
    have hlab : a.length = b.length := by omega
    refine GoC.loopE (σ := Nat) [0, 1, 12] (fun k => [(13, .i (k : Int))]) (fun k => []) (fun n k => n = a.length - k ∧ k ≤ a.length ∧ ∀ i, i < k → a.getD i false = b.getD i false) (a.length) 0 ?_ (by repeat (first | exact EnvLe.nil | refine EnvLe.cons rfl ?_)) (by exact (Take.nil _)) ?_
    · exact ⟨by omega, by omega, fun i hi => absurd hi (by omega)⟩
    rintro n k ⟨rfl, hk, hE⟩
    refine GoC.seq ?_
    refine GoC.region ?_
    refine GoO.pure (ps_lss rfl rfl rfl) ?_
    refine GoO.nil ?_
    refine GoK.code ?_
    refine GoC.seq ?_
    first | refine GoC.condD rfl (fun h13 => ?_) (fun h13 => ?_) | refine GoC.cond rfl (fun h13 => ?_) (fun h13 => ?_)
    · skip
      have hlt : k < a.length := by omega
      refine GoC.skip ?_
      refine GoK.code ?_
      refine GoC.seq ?_
      refine GoC.block ?_
      refine GoC.seq ?_
      refine GoC.region ?_
      refine GoO.pure (ps_move rfl rfl) ?_
      refine GoO.pure (ps_assign rfl rfl) ?_
      refine GoO.nil ?_
      refine GoK.code ?_
      refine GoC.seq ?_
      refine GoC.drawA (.q 0 (.q 1 (.q 2 (.q 3 (.q 4 (.q 5 (.q 6 (.q 7 (.q 8 (.done)))))))))) follows (by kernel_rfl) ?_
      refine GoP.qN rfl (ps_move rfl rfl) ?_
      refine GoP.qN rfl (ps_move rfl rfl) ?_
      first | refine GoP.qN rfl (ps_indexAddr0N rfl rfl ?_ rfl) ?_ | refine GoP.qN rfl (ps_indexAddrRN rfl rfl ?_ rfl) ?_ | refine GoP.qN rfl (ps_indexAddr0 rfl rfl ?_ rfl) ?_ | refine GoP.qN rfl (ps_indexAddrN rfl rfl ?_ rfl) ?_ | refine GoP.qN rfl (ps_indexAddrRN rfl rfl ?_ rfl) ?_ | refine GoP.qN rfl (ps_indexAddr rfl rfl ?_ rfl) ?_ | refine GoP.qN rfl (ps_indexAddrR rfl rfl ?_ rfl) ?_
      · first | exact Nat.zero_lt_one | assumption | omega | exact InI.of (by omega) (by omega) | (simp only [ints_len, bools_len, st1_len, arcs_len, lits_len, List.length_set, List.length_append, List.length_cons, List.length_nil, List.length_replicate]; omega)
      first | refine GoP.qN rfl (ps_load rfl (by first | exact At.p0 | exact At.p1 | exact At.p2 | exact At.p3 | exact At.p4 | exact At.p5 | exact At.p6 | exact At.p7 | exact At.p8 | exact At.p9 | exact At.p10 | exact At.p11 | exact At.p12 | exact At.p13) (by first | exact At.p0 | exact At.p1 | exact At.p2 | exact At.p3 | exact At.p4 | exact At.p5 | exact At.p6 | exact At.p7 | exact At.p8 | exact At.p9 | exact At.p10 | exact At.p11 | exact At.p12 | exact At.p13) ?_ rfl rfl) ?_ | refine GoP.qN rfl (ps_loadR rfl ?_ rfl rfl) ?_
      · first | exact Nat.zero_lt_one | assumption | omega | exact InI.of (by omega) (by omega) | (simp only [ints_len, bools_len, st1_len, arcs_len, lits_len, List.length_set, List.length_append, List.length_cons, List.length_nil, List.length_replicate]; omega)
      refine GoP.qN rfl (ps_move rfl rfl) ?_
      refine GoP.qN rfl (ps_move rfl rfl) ?_
      first | refine GoP.qN rfl (ps_indexAddr0N rfl rfl ?_ rfl) ?_ | refine GoP.qN rfl (ps_indexAddrRN rfl rfl ?_ rfl) ?_ | refine GoP.qN rfl (ps_indexAddr0 rfl rfl ?_ rfl) ?_ | refine GoP.qN rfl (ps_indexAddrN rfl rfl ?_ rfl) ?_ | refine GoP.qN rfl (ps_indexAddrRN rfl rfl ?_ rfl) ?_ | refine GoP.qN rfl (ps_indexAddr rfl rfl ?_ rfl) ?_ | refine GoP.qN rfl (ps_indexAddrR rfl rfl ?_ rfl) ?_
      · first | exact Nat.zero_lt_one | assumption | omega | exact InI.of (by omega) (by omega) | (simp only [ints_len, bools_len, st1_len, arcs_len, lits_len, List.length_set, List.length_append, List.length_cons, List.length_nil, List.length_replicate]; omega)
      first | refine GoP.qN rfl (ps_load rfl (by first | exact At.p0 | exact At.p1 | exact At.p2 | exact At.p3 | exact At.p4 | exact At.p5 | exact At.p6 | exact At.p7 | exact At.p8 | exact At.p9 | exact At.p10 | exact At.p11 | exact At.p12 | exact At.p13) (by first | exact At.p0 | exact At.p1 | exact At.p2 | exact At.p3 | exact At.p4 | exact At.p5 | exact At.p6 | exact At.p7 | exact At.p8 | exact At.p9 | exact At.p10 | exact At.p11 | exact At.p12 | exact At.p13) ?_ rfl rfl) ?_ | refine GoP.qN rfl (ps_loadR rfl ?_ rfl rfl) ?_
      · first | exact Nat.zero_lt_one | assumption | omega | exact InI.of (by omega) (by omega) | (simp only [ints_len, bools_len, st1_len, arcs_len, lits_len, List.length_set, List.length_append, List.length_cons, List.length_nil, List.length_replicate]; omega)
      first | refine GoP.qN rfl (ps_neq rfl rfl rfl) ?_ | refine GoP.qN rfl (ps_neqB rfl rfl rfl) ?_ | refine GoP.qN rfl (ps_neqA rfl rfl rfl rfl) ?_
      refine GoP.done ?_
      refine GoK.code ?_
      first | refine GoC.condD rfl (fun h25 => ?_) (fun h25 => ?_) | refine GoC.cond rfl (fun h25 => ?_) (fun h25 => ?_)
      · skip
        refine GoC.seq ?_
        refine GoC.region ?_
        refine GoO.pure (ps_assign rfl rfl) ?_
        refine GoO.nil ?_
        refine GoK.code ?_
        refine GoC.ret1 (H' := []) Try.results23 (ResD.tmp rfl) (by exact (Take.nil _)) ?_
        · exact ⟨(bo_false fun e => by subst e; simp at *).symm, rfl⟩
      · skip
        refine GoC.skip ?_
        refine GoK.blk ?_
        refine GoK.code ?_
        refine GoC.region ?_
        refine GoO.pure (ps_add rfl rfl rfl ?_) ?_
        · first | exact Nat.zero_lt_one | assumption | omega | exact InI.of (by omega) (by omega) | (simp only [ints_len, bools_len, st1_len, arcs_len, lits_len, List.length_set, List.length_append, List.length_cons, List.length_nil, List.length_replicate]; omega)
        refine GoO.pure (ps_move rfl rfl) ?_
        refine GoO.nil ?_
        refine GoK.againE (a.length - (k + 1)) (k + 1) ?_ ?_ (by repeat (first | exact EnvLe.nil | refine EnvLe.cons rfl ?_)) (by repeat (first | exact Tk.all _ | exact Tk.nil | refine Tk.cons (by first | exact Rem.p0 | exact Rem.p1 | exact Rem.p2 | exact Rem.p3 | exact Rem.p4 | exact Rem.p5 | exact Rem.p6 | exact Rem.p7 | exact Rem.p8 | exact Rem.p9 | exact Rem.p10 | exact Rem.p11 | exact Rem.p12 | exact Rem.p13) ?_))
        · omega
        · exact ⟨rfl, hlt, fun i hi => if e : i = k then e ▸ (by first | exact Classical.not_not.1 ‹_› | simpa using ‹_› | omega) else hE i (by omega)⟩
    · skip
      refine GoC.exit rfl ?_
      refine GoK.code ?_
      refine GoC.seq ?_
      refine GoC.region ?_
      refine GoO.pure (ps_assign rfl rfl) ?_
      refine GoO.nil ?_
      refine GoK.code ?_
      refine GoC.ret1 (H' := []) Try.results23 (ResD.tmp rfl) (by exact (Take.nil _)) ?_
      · exact ⟨(bo_true (eq_of_getD hlab fun i hi => hE i (by omega))).symm, rfl⟩

end Go.Proofs.Ytmgldjkgneiejaa
