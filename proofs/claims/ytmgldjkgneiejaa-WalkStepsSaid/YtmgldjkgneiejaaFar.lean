/- What the functions of wfar compute, by walks through their text. -/
import Derived.Test.YtmgldjkgneiejaaTys
import Derived.Test.YtmgldjkgneiejaaDat
import Derived.Test.YtmgldjkgneiejaaSearch
namespace Go.Proofs.Ytmgldjkgneiejaa
open Go Go.Proofs.Ytmgldjkgneiejaa.Sx
set_option linter.unusedVariables false
set_option linter.unusedSimpArgs false

instance {l : List D} {i : Nat} [h : IndepL l] : Indep (nth l i) := h.h i
instance {l : List D} {n : Nat} [h : IndepL l] : Indep (.ag n fun j => (st1 (nth l)).get 0 j) := Indep.ag fun i _ => h.h i
set_option maxRecDepth 100000 in
set_option maxHeartbeats 400000 in
theorem far_spec (g : Graph) (s : Int) (hs : InI s) : Does Try.prog 26 [graphD g, .i s] [] (FarP 3 g s) := by
  refine Does.intro Try.func26 rfl Try.ntmps26 rfl fun w0 I0 => ?_
  refine GoC.seq ?_
  refine GoC.region ?_
  refine GoO.effB (ef_boxAg rfl rfl) (fun β1 => ?_)
  refine GoO.pure (ps_assign rfl rfl) ?_
  refine GoO.pure (ps_assign rfl rfl) ?_
  refine GoO.nil ?_
  refine GoK.code ?_
  refine GoC.seq ?_
  refine GoC.region ?_
  first | refine GoO.pure (ps_loadAg rfl (by first | exact At.p0 | exact At.p1 | exact At.p2 | exact At.p3 | exact At.p4 | exact At.p5 | exact At.p6 | exact At.p7 | exact At.p8 | exact At.p9 | exact At.p10 | exact At.p11 | exact At.p12 | exact At.p13) (by first | exact At.p0 | exact At.p1 | exact At.p2 | exact At.p3 | exact At.p4 | exact At.p5 | exact At.p6 | exact At.p7 | exact At.p8 | exact At.p9 | exact At.p10 | exact At.p11 | exact At.p12 | exact At.p13) ?_ rfl rfl) ?_ | refine GoO.pure (ps_loadAgR rfl ?_ rfl rfl) ?_
  · first | exact Nat.zero_lt_one | assumption | omega | exact InI.of (by omega) (by omega) | (simp only [ints_len, bools_len, st1_len, arcs_len, lits_len, List.length_set, List.length_append, List.length_cons, List.length_nil, List.length_replicate]; omega)
  refine GoO.pure (ps_move rfl rfl) ?_
  refine GoO.effC (ef_call rfl (by first | exact (Take.nil _) | exact (Take.cons _ _ _ _ _ (by first | exact Rem.p0 | exact Rem.p1 | exact Rem.p2 | exact Rem.p3 | exact Rem.p4 | exact Rem.p5 | exact Rem.p6 | exact Rem.p7 | exact Rem.p8 | exact Rem.p9 | exact Rem.p10 | exact Rem.p11 | exact Rem.p12 | exact Rem.p13) (Take.nil _)) | exact (Take.cons _ _ _ _ _ (by first | exact Rem.p0 | exact Rem.p1 | exact Rem.p2 | exact Rem.p3 | exact Rem.p4 | exact Rem.p5 | exact Rem.p6 | exact Rem.p7 | exact Rem.p8 | exact Rem.p9 | exact Rem.p10 | exact Rem.p11 | exact Rem.p12 | exact Rem.p13) (Take.cons _ _ _ _ _ (by first | exact Rem.p0 | exact Rem.p1 | exact Rem.p2 | exact Rem.p3 | exact Rem.p4 | exact Rem.p5 | exact Rem.p6 | exact Rem.p7 | exact Rem.p8 | exact Rem.p9 | exact Rem.p10 | exact Rem.p11 | exact Rem.p12 | exact Rem.p13) (Take.nil _))) | exact (Take.cons _ _ _ _ _ (by first | exact Rem.p0 | exact Rem.p1 | exact Rem.p2 | exact Rem.p3 | exact Rem.p4 | exact Rem.p5 | exact Rem.p6 | exact Rem.p7 | exact Rem.p8 | exact Rem.p9 | exact Rem.p10 | exact Rem.p11 | exact Rem.p12 | exact Rem.p13) (Take.cons _ _ _ _ _ (by first | exact Rem.p0 | exact Rem.p1 | exact Rem.p2 | exact Rem.p3 | exact Rem.p4 | exact Rem.p5 | exact Rem.p6 | exact Rem.p7 | exact Rem.p8 | exact Rem.p9 | exact Rem.p10 | exact Rem.p11 | exact Rem.p12 | exact Rem.p13) (Take.cons _ _ _ _ _ (by first | exact Rem.p0 | exact Rem.p1 | exact Rem.p2 | exact Rem.p3 | exact Rem.p4 | exact Rem.p5 | exact Rem.p6 | exact Rem.p7 | exact Rem.p8 | exact Rem.p9 | exact Rem.p10 | exact Rem.p11 | exact Rem.p12 | exact Rem.p13) (Take.nil _)))) | exact (Take.cons _ _ _ _ _ (by first | exact Rem.p0 | exact Rem.p1 | exact Rem.p2 | exact Rem.p3 | exact Rem.p4 | exact Rem.p5 | exact Rem.p6 | exact Rem.p7 | exact Rem.p8 | exact Rem.p9 | exact Rem.p10 | exact Rem.p11 | exact Rem.p12 | exact Rem.p13) (Take.cons _ _ _ _ _ (by first | exact Rem.p0 | exact Rem.p1 | exact Rem.p2 | exact Rem.p3 | exact Rem.p4 | exact Rem.p5 | exact Rem.p6 | exact Rem.p7 | exact Rem.p8 | exact Rem.p9 | exact Rem.p10 | exact Rem.p11 | exact Rem.p12 | exact Rem.p13) (Take.cons _ _ _ _ _ (by first | exact Rem.p0 | exact Rem.p1 | exact Rem.p2 | exact Rem.p3 | exact Rem.p4 | exact Rem.p5 | exact Rem.p6 | exact Rem.p7 | exact Rem.p8 | exact Rem.p9 | exact Rem.p10 | exact Rem.p11 | exact Rem.p12 | exact Rem.p13) (Take.cons _ _ _ _ _ (by first | exact Rem.p0 | exact Rem.p1 | exact Rem.p2 | exact Rem.p3 | exact Rem.p4 | exact Rem.p5 | exact Rem.p6 | exact Rem.p7 | exact Rem.p8 | exact Rem.p9 | exact Rem.p10 | exact Rem.p11 | exact Rem.p12 | exact Rem.p13) (Take.nil _)))))) (by exact LendL.cons (by first | exact Lend.refl _ _ | exact Lend.all' (by first | exact At.p0 | exact At.p1 | exact At.p2 | exact At.p3 | exact At.p4 | exact At.p5 | exact At.p6 | exact At.p7 | exact At.p8 | exact At.p9 | exact At.p10 | exact At.p11 | exact At.p12 | exact At.p13) (by rfl) (by rfl) | exact Lend.nil | exact Lend.e0 | exact Lend.agL (by repeat (first | exact LendL.nil | refine LendL.cons (by first | exact Lend.refl _ _ | exact Lend.all' (by first | exact At.p0 | exact At.p1 | exact At.p2 | exact At.p3 | exact At.p4 | exact At.p5 | exact At.p6 | exact At.p7 | exact At.p8 | exact At.p9 | exact At.p10 | exact At.p11 | exact At.p12 | exact At.p13) (by rfl) (by rfl) | exact Lend.nil) ?_))) (LendL.cons (by first | exact Lend.refl _ _ | exact Lend.all' (by first | exact At.p0 | exact At.p1 | exact At.p2 | exact At.p3 | exact At.p4 | exact At.p5 | exact At.p6 | exact At.p7 | exact At.p8 | exact At.p9 | exact At.p10 | exact At.p11 | exact At.p12 | exact At.p13) (by rfl) (by rfl) | exact Lend.nil | exact Lend.e0 | exact Lend.agL (by repeat (first | exact LendL.nil | refine LendL.cons (by first | exact Lend.refl _ _ | exact Lend.all' (by first | exact At.p0 | exact At.p1 | exact At.p2 | exact At.p3 | exact At.p4 | exact At.p5 | exact At.p6 | exact At.p7 | exact At.p8 | exact At.p9 | exact At.p10 | exact At.p11 | exact At.p12 | exact At.p13) (by rfl) (by rfl) | exact Lend.nil) ?_))) (LendL.nil))) (search_spec g s hs) rfl) (fun r H hp => ?_)
  obtain ⟨βf, βb, rfl, rfl⟩ := hp
  refine GoO.pure (ps_move rfl rfl) ?_
  refine GoO.pure (ps_extract rfl rfl rfl) ?_
  refine GoO.pure (ps_extract rfl rfl rfl) ?_
  refine GoO.pure (ps_extract rfl rfl rfl) ?_
  refine GoO.pure (ps_assign rfl rfl) ?_
  refine GoO.pure (ps_assign rfl rfl) ?_
  refine GoO.pure (ps_assign rfl rfl) ?_
  refine GoO.nil ?_
  refine GoK.code ?_
  refine GoC.seq ?_
  refine GoC.region ?_
  refine GoO.pure (ps_move rfl rfl) ?_
  refine GoO.pure (ps_move rfl rfl) ?_
  refine GoO.pure (ps_assign rfl rfl) ?_
  refine GoO.pure (ps_assign rfl rfl) ?_
  refine GoO.nil ?_
  refine GoK.code ?_
  refine GoC.ret2 (H' := [.one βf 3 1 (ints _)]) Try.results26 (ResD.tmp rfl) (ResD.tmp rfl) (by exact (Take.cons _ _ _ _ _ (by first | exact Rem.p0 | exact Rem.p1 | exact Rem.p2 | exact Rem.p3 | exact Rem.p4 | exact Rem.p5 | exact Rem.p6 | exact Rem.p7 | exact Rem.p8 | exact Rem.p9 | exact Rem.p10 | exact Rem.p11 | exact Rem.p12 | exact Rem.p13) (Take.nil _))) ?_
  · exact ⟨_, rfl, rfl⟩

end Go.Proofs.Ytmgldjkgneiejaa
