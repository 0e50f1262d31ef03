/- What the functions of steps compute, by walks through their text. -/
import Derived.Test.YtmgldjkgneiejaaTys
import Derived.Test.YtmgldjkgneiejaaDat
import Derived.Test.YtmgldjkgneiejaaWay
import Derived.Test.YtmgldjkgneiejaaKeep
import Derived.Test.YtmgldjkgneiejaaFrom
import Derived.Test.YtmgldjkgneiejaaSlices
import Derived.Test.YtmgldjkgneiejaaFrame
namespace Go.Proofs.Ytmgldjkgneiejaa
open Go Go.Proofs.Ytmgldjkgneiejaa.Sx
set_option linter.unusedVariables false
set_option linter.unusedSimpArgs false

abbrev g3 : Graph := ⟨3, [⟨0, 1, 5⟩, ⟨0, 2, 4⟩, ⟨2, 1, -2⟩]⟩
theorem from_g3 : fromF g3 0 = (0, [0, 2, 4], [true, true, true]) := by decide
def tight (far : List Int) (known : List Bool) (a : Arc) : Prop := known.getD a.f.toNat false = true ∧ known.getD a.t.toNat false = true ∧ far.getD a.t.toNat 0 = far.getD a.f.toNat 0 + a.c
structure HitI (g : Graph) (s : Int) (k : Nat) (hit : List Bool) : Prop where
  le : k ≤ g.as.length
  l : hit.length = g.n.toNat
  s0 : hit.getD s.toNat false = true
  on : ∀ j, j < k → tight (fromF g s).2.1 (fromF g s).2.2 (g.as.getD j ⟨0, 0, 0⟩) → hit.getD (g.as.getD j ⟨0, 0, 0⟩).t.toNat false = true
theorem HitI.step {g : Graph} {s : Int} {k : Nat} {hit : List Bool} {b : Bool} (h : HitI g s k hit) (hk : k < g.as.length) (hb : hit.getD (g.as.getD k ⟨0, 0, 0⟩).t.toNat false = true ∨ tight (fromF g s).2.1 (fromF g s).2.2 (g.as.getD k ⟨0, 0, 0⟩) → b = true) (ht : (g.as.getD k ⟨0, 0, 0⟩).t.toNat < hit.length) :
    HitI g s (k + 1) (hit.set (g.as.getD k ⟨0, 0, 0⟩).t.toNat b) := by
  have keep : ∀ i, hit.getD i false = true → (hit.set (g.as.getD k ⟨0, 0, 0⟩).t.toNat b).getD i false = true := fun i hi => by
    rw [getD_set]; split
    · rename_i e
      exact hb (.inl (by rw [e.1]; exact hi))
    · exact hi
  refine ⟨hk, by simpa using h.l, keep _ h.s0, fun j hj hjt => ?_⟩
  by_cases e : j = k
  · subst e
    rw [getD_set, if_pos ⟨rfl, ht⟩]
    exact hb (.inr hjt)
  · exact keep _ (h.on j (by omega) hjt)
theorem mem_at {l : List Arc} {a : Arc} (h : a ∈ l) : ∃ j, j < l.length ∧ l.getD j ⟨0, 0, 0⟩ = a := by
  obtain ⟨j, hj, e⟩ := List.getElem_of_mem h
  exact ⟨j, hj, by rw [List.getD_eq_getElem?_getD, List.getElem?_eq_getElem hj]; exact e⟩
theorem hit_all {g : Graph} {s : Int} {hit : List Bool} (hf : FromOk g s) (h : HitI g s g.as.length hit) {i : Nat} (hi : (fromF g s).2.2.getD i false = true) : hit.getD i false = true := by
  rcases hf.by_ i hi with e | ⟨a, ha, et, hk, he⟩
  · rw [e]; exact h.s0
  · obtain ⟨j, hj, ej⟩ := mem_at ha
    have := h.on j hj ⟨by rw [ej]; exact hk, by rw [ej, et]; exact hi, by rw [ej, et]; exact he⟩
    rwa [ej, et] at this
theorem from_three : Does Try.prog 19 [graphD g3, .i 0] [] (fun d H => ∃ β γ, d = .tp 3 (nth [.own β 1 0 3, .own γ 1 0 3, .i 0]) ∧ H = [.one β 3 1 (ints [0, 2, 4]), .one γ 4 1 (bools [true, true, true])]) :=
  (from_spec g3 0 (by unfold InI; omega)).mono fun d H ⟨β, γ, h1, h2⟩ => by
    rw [from_g3] at h1 h2; exact ⟨β, γ, h1, h2⟩
set_option maxRecDepth 100000 in
set_option maxHeartbeats 400000 in
theorem shorts_spec  : Does Try.prog 18 [] [] (fun d H => d = .bo true ∧ H = []) := by
  refine Does.intro Try.func18 rfl Try.ntmps18 rfl fun w0 I0 => ?_
  refine GoC.seq ?_
  refine GoC.region ?_
  refine GoO.pure (ps_assign rfl rfl) ?_
  refine GoO.nil ?_
  refine GoK.code ?_
  refine GoC.seq ?_
  refine GoC.region ?_
  refine GoO.pure (ps_buildA (by exact (Parts.cons _ _ _ _ _ _ _ _ ⟨rfl, rfl⟩ (by first | exact Part.one _ rfl rfl | exact Part.ag _ _ rfl) (by rfl) (by rfl) (Parts.cons _ _ _ _ _ _ _ _ ⟨rfl, rfl⟩ (by first | exact Part.one _ rfl rfl | exact Part.ag _ _ rfl) (by rfl) (by rfl) (Parts.cons _ _ _ _ _ _ _ _ ⟨rfl, rfl⟩ (by first | exact Part.one _ rfl rfl | exact Part.ag _ _ rfl) (by rfl) (by rfl) (Parts.nil _))))) rfl) ?_
  refine GoO.pure (ps_buildA (by exact (Parts.cons _ _ _ _ _ _ _ _ ⟨rfl, rfl⟩ (by first | exact Part.one _ rfl rfl | exact Part.ag _ _ rfl) (by rfl) (by rfl) (Parts.cons _ _ _ _ _ _ _ _ ⟨rfl, rfl⟩ (by first | exact Part.one _ rfl rfl | exact Part.ag _ _ rfl) (by rfl) (by rfl) (Parts.cons _ _ _ _ _ _ _ _ ⟨rfl, rfl⟩ (by first | exact Part.one _ rfl rfl | exact Part.ag _ _ rfl) (by rfl) (by rfl) (Parts.nil _))))) rfl) ?_
  refine GoO.pure (ps_buildA (by exact (Parts.cons _ _ _ _ _ _ _ _ ⟨rfl, rfl⟩ (by first | exact Part.one _ rfl rfl | exact Part.ag _ _ rfl) (by rfl) (by rfl) (Parts.cons _ _ _ _ _ _ _ _ ⟨rfl, rfl⟩ (by first | exact Part.one _ rfl rfl | exact Part.ag _ _ rfl) (by rfl) (by rfl) (Parts.cons _ _ _ _ _ _ _ _ ⟨rfl, rfl⟩ (by first | exact Part.one _ rfl rfl | exact Part.ag _ _ rfl) (by rfl) (by rfl) (Parts.nil _))))) rfl) ?_
  refine GoO.effB (ef_buildSlice (arcs g3.as) rfl (by exact (Parts.cons _ _ _ _ _ _ _ _ ⟨rfl, rfl⟩ (by first | exact Part.one _ rfl rfl | exact Part.ag _ _ rfl) (by rfl) (by rfl) (Parts.cons _ _ _ _ _ _ _ _ ⟨rfl, rfl⟩ (by first | exact Part.one _ rfl rfl | exact Part.ag _ _ rfl) (by rfl) (by rfl) (Parts.cons _ _ _ _ _ _ _ _ ⟨rfl, rfl⟩ (by first | exact Part.one _ rfl rfl | exact Part.ag _ _ rfl) (by rfl) (by rfl) (Parts.nil _))))) rfl rfl rfl rfl) (fun β5 => ?_)
  refine GoO.effC (ef_call rfl (by first | exact (Take.nil _) | exact (Take.cons _ _ _ _ _ (by first | exact Rem.p0 | exact Rem.p1 | exact Rem.p2 | exact Rem.p3 | exact Rem.p4 | exact Rem.p5 | exact Rem.p6 | exact Rem.p7 | exact Rem.p8 | exact Rem.p9 | exact Rem.p10 | exact Rem.p11 | exact Rem.p12 | exact Rem.p13) (Take.nil _)) | exact (Take.cons _ _ _ _ _ (by first | exact Rem.p0 | exact Rem.p1 | exact Rem.p2 | exact Rem.p3 | exact Rem.p4 | exact Rem.p5 | exact Rem.p6 | exact Rem.p7 | exact Rem.p8 | exact Rem.p9 | exact Rem.p10 | exact Rem.p11 | exact Rem.p12 | exact Rem.p13) (Take.cons _ _ _ _ _ (by first | exact Rem.p0 | exact Rem.p1 | exact Rem.p2 | exact Rem.p3 | exact Rem.p4 | exact Rem.p5 | exact Rem.p6 | exact Rem.p7 | exact Rem.p8 | exact Rem.p9 | exact Rem.p10 | exact Rem.p11 | exact Rem.p12 | exact Rem.p13) (Take.nil _))) | exact (Take.cons _ _ _ _ _ (by first | exact Rem.p0 | exact Rem.p1 | exact Rem.p2 | exact Rem.p3 | exact Rem.p4 | exact Rem.p5 | exact Rem.p6 | exact Rem.p7 | exact Rem.p8 | exact Rem.p9 | exact Rem.p10 | exact Rem.p11 | exact Rem.p12 | exact Rem.p13) (Take.cons _ _ _ _ _ (by first | exact Rem.p0 | exact Rem.p1 | exact Rem.p2 | exact Rem.p3 | exact Rem.p4 | exact Rem.p5 | exact Rem.p6 | exact Rem.p7 | exact Rem.p8 | exact Rem.p9 | exact Rem.p10 | exact Rem.p11 | exact Rem.p12 | exact Rem.p13) (Take.cons _ _ _ _ _ (by first | exact Rem.p0 | exact Rem.p1 | exact Rem.p2 | exact Rem.p3 | exact Rem.p4 | exact Rem.p5 | exact Rem.p6 | exact Rem.p7 | exact Rem.p8 | exact Rem.p9 | exact Rem.p10 | exact Rem.p11 | exact Rem.p12 | exact Rem.p13) (Take.nil _)))) | exact (Take.cons _ _ _ _ _ (by first | exact Rem.p0 | exact Rem.p1 | exact Rem.p2 | exact Rem.p3 | exact Rem.p4 | exact Rem.p5 | exact Rem.p6 | exact Rem.p7 | exact Rem.p8 | exact Rem.p9 | exact Rem.p10 | exact Rem.p11 | exact Rem.p12 | exact Rem.p13) (Take.cons _ _ _ _ _ (by first | exact Rem.p0 | exact Rem.p1 | exact Rem.p2 | exact Rem.p3 | exact Rem.p4 | exact Rem.p5 | exact Rem.p6 | exact Rem.p7 | exact Rem.p8 | exact Rem.p9 | exact Rem.p10 | exact Rem.p11 | exact Rem.p12 | exact Rem.p13) (Take.cons _ _ _ _ _ (by first | exact Rem.p0 | exact Rem.p1 | exact Rem.p2 | exact Rem.p3 | exact Rem.p4 | exact Rem.p5 | exact Rem.p6 | exact Rem.p7 | exact Rem.p8 | exact Rem.p9 | exact Rem.p10 | exact Rem.p11 | exact Rem.p12 | exact Rem.p13) (Take.cons _ _ _ _ _ (by first | exact Rem.p0 | exact Rem.p1 | exact Rem.p2 | exact Rem.p3 | exact Rem.p4 | exact Rem.p5 | exact Rem.p6 | exact Rem.p7 | exact Rem.p8 | exact Rem.p9 | exact Rem.p10 | exact Rem.p11 | exact Rem.p12 | exact Rem.p13) (Take.nil _)))))) (by exact LendL.cons (by first | exact Lend.refl _ _ | exact Lend.all' (by first | exact At.p0 | exact At.p1 | exact At.p2 | exact At.p3 | exact At.p4 | exact At.p5 | exact At.p6 | exact At.p7 | exact At.p8 | exact At.p9 | exact At.p10 | exact At.p11 | exact At.p12 | exact At.p13) (by rfl) (by rfl) | exact Lend.nil | exact Lend.e0 | exact Lend.agL (by repeat (first | exact LendL.nil | refine LendL.cons (by first | exact Lend.refl _ _ | exact Lend.all' (by first | exact At.p0 | exact At.p1 | exact At.p2 | exact At.p3 | exact At.p4 | exact At.p5 | exact At.p6 | exact At.p7 | exact At.p8 | exact At.p9 | exact At.p10 | exact At.p11 | exact At.p12 | exact At.p13) (by rfl) (by rfl) | exact Lend.nil) ?_))) (LendL.nil)) (arcs_spec g3.as (by decide)) rfl) (fun r H hp => ?_)
  obtain ⟨βa, rfl, rfl⟩ := hp
  refine GoO.pure (ps_build (by exact (Parts.cons _ _ _ _ _ _ _ _ FdP.of (by first | exact Part.one _ rfl rfl | exact Part.ag _ _ rfl) (by rfl) (by rfl) (Parts.cons _ _ _ _ _ _ _ _ FdP.of (by first | exact Part.one _ rfl rfl | exact Part.ag _ _ rfl) (by rfl) (by rfl) (Parts.nil _)))) rfl) ?_
  refine GoO.effC (ef_call rfl (by first | exact (Take.nil _) | exact (Take.cons _ _ _ _ _ (by first | exact Rem.p0 | exact Rem.p1 | exact Rem.p2 | exact Rem.p3 | exact Rem.p4 | exact Rem.p5 | exact Rem.p6 | exact Rem.p7 | exact Rem.p8 | exact Rem.p9 | exact Rem.p10 | exact Rem.p11 | exact Rem.p12 | exact Rem.p13) (Take.nil _)) | exact (Take.cons _ _ _ _ _ (by first | exact Rem.p0 | exact Rem.p1 | exact Rem.p2 | exact Rem.p3 | exact Rem.p4 | exact Rem.p5 | exact Rem.p6 | exact Rem.p7 | exact Rem.p8 | exact Rem.p9 | exact Rem.p10 | exact Rem.p11 | exact Rem.p12 | exact Rem.p13) (Take.cons _ _ _ _ _ (by first | exact Rem.p0 | exact Rem.p1 | exact Rem.p2 | exact Rem.p3 | exact Rem.p4 | exact Rem.p5 | exact Rem.p6 | exact Rem.p7 | exact Rem.p8 | exact Rem.p9 | exact Rem.p10 | exact Rem.p11 | exact Rem.p12 | exact Rem.p13) (Take.nil _))) | exact (Take.cons _ _ _ _ _ (by first | exact Rem.p0 | exact Rem.p1 | exact Rem.p2 | exact Rem.p3 | exact Rem.p4 | exact Rem.p5 | exact Rem.p6 | exact Rem.p7 | exact Rem.p8 | exact Rem.p9 | exact Rem.p10 | exact Rem.p11 | exact Rem.p12 | exact Rem.p13) (Take.cons _ _ _ _ _ (by first | exact Rem.p0 | exact Rem.p1 | exact Rem.p2 | exact Rem.p3 | exact Rem.p4 | exact Rem.p5 | exact Rem.p6 | exact Rem.p7 | exact Rem.p8 | exact Rem.p9 | exact Rem.p10 | exact Rem.p11 | exact Rem.p12 | exact Rem.p13) (Take.cons _ _ _ _ _ (by first | exact Rem.p0 | exact Rem.p1 | exact Rem.p2 | exact Rem.p3 | exact Rem.p4 | exact Rem.p5 | exact Rem.p6 | exact Rem.p7 | exact Rem.p8 | exact Rem.p9 | exact Rem.p10 | exact Rem.p11 | exact Rem.p12 | exact Rem.p13) (Take.nil _)))) | exact (Take.cons _ _ _ _ _ (by first | exact Rem.p0 | exact Rem.p1 | exact Rem.p2 | exact Rem.p3 | exact Rem.p4 | exact Rem.p5 | exact Rem.p6 | exact Rem.p7 | exact Rem.p8 | exact Rem.p9 | exact Rem.p10 | exact Rem.p11 | exact Rem.p12 | exact Rem.p13) (Take.cons _ _ _ _ _ (by first | exact Rem.p0 | exact Rem.p1 | exact Rem.p2 | exact Rem.p3 | exact Rem.p4 | exact Rem.p5 | exact Rem.p6 | exact Rem.p7 | exact Rem.p8 | exact Rem.p9 | exact Rem.p10 | exact Rem.p11 | exact Rem.p12 | exact Rem.p13) (Take.cons _ _ _ _ _ (by first | exact Rem.p0 | exact Rem.p1 | exact Rem.p2 | exact Rem.p3 | exact Rem.p4 | exact Rem.p5 | exact Rem.p6 | exact Rem.p7 | exact Rem.p8 | exact Rem.p9 | exact Rem.p10 | exact Rem.p11 | exact Rem.p12 | exact Rem.p13) (Take.cons _ _ _ _ _ (by first | exact Rem.p0 | exact Rem.p1 | exact Rem.p2 | exact Rem.p3 | exact Rem.p4 | exact Rem.p5 | exact Rem.p6 | exact Rem.p7 | exact Rem.p8 | exact Rem.p9 | exact Rem.p10 | exact Rem.p11 | exact Rem.p12 | exact Rem.p13) (Take.nil _)))))) (by exact LendL.cons (by first | exact Lend.refl _ _ | exact Lend.all' (by first | exact At.p0 | exact At.p1 | exact At.p2 | exact At.p3 | exact At.p4 | exact At.p5 | exact At.p6 | exact At.p7 | exact At.p8 | exact At.p9 | exact At.p10 | exact At.p11 | exact At.p12 | exact At.p13) (by rfl) (by rfl) | exact Lend.nil | exact Lend.e0 | exact Lend.agL (by repeat (first | exact LendL.nil | refine LendL.cons (by first | exact Lend.refl _ _ | exact Lend.all' (by first | exact At.p0 | exact At.p1 | exact At.p2 | exact At.p3 | exact At.p4 | exact At.p5 | exact At.p6 | exact At.p7 | exact At.p8 | exact At.p9 | exact At.p10 | exact At.p11 | exact At.p12 | exact At.p13) (by rfl) (by rfl) | exact Lend.nil) ?_))) (LendL.cons (by first | exact Lend.refl _ _ | exact Lend.all' (by first | exact At.p0 | exact At.p1 | exact At.p2 | exact At.p3 | exact At.p4 | exact At.p5 | exact At.p6 | exact At.p7 | exact At.p8 | exact At.p9 | exact At.p10 | exact At.p11 | exact At.p12 | exact At.p13) (by rfl) (by rfl) | exact Lend.nil | exact Lend.e0 | exact Lend.agL (by repeat (first | exact LendL.nil | refine LendL.cons (by first | exact Lend.refl _ _ | exact Lend.all' (by first | exact At.p0 | exact At.p1 | exact At.p2 | exact At.p3 | exact At.p4 | exact At.p5 | exact At.p6 | exact At.p7 | exact At.p8 | exact At.p9 | exact At.p10 | exact At.p11 | exact At.p12 | exact At.p13) (by rfl) (by rfl) | exact Lend.nil) ?_))) (LendL.nil))) (from_three) rfl) (fun r H hp => ?_)
  obtain ⟨βf, βk, rfl, rfl⟩ := hp
  refine GoO.pure (ps_move rfl rfl) ?_
  refine GoO.pure (ps_extract rfl rfl rfl) ?_
  refine GoO.pure (ps_extract rfl rfl rfl) ?_
  refine GoO.pure (ps_extract rfl rfl rfl) ?_
  refine GoO.pure (ps_assign rfl rfl) ?_
  refine GoO.pure (ps_assign rfl rfl) ?_
  refine GoO.pure (ps_assign rfl rfl) ?_
  refine GoO.nil ?_
  refine GoK.code ?_
  refine GoC.seq ?_
  refine GoC.region ?_
  refine GoO.pure (ps_move rfl rfl) ?_
  first | refine GoO.pure (ps_eql rfl rfl rfl) ?_ | refine GoO.pure (ps_eqlB rfl rfl rfl) ?_ | refine GoO.pure (ps_eqlA rfl rfl rfl rfl) ?_
  refine GoO.pure (ps_move rfl rfl) ?_
  first | refine GoO.guardD rfl rfl rfl rfl (fun h19 => ?_) (fun h19 => ?_) | refine GoO.guard rfl rfl rfl rfl (fun h19 => ?_) (fun h19 => ?_)
  · skip
    refine GoO.pure (ps_move rfl rfl) ?_
    refine GoO.guardT rfl rfl rfl ?_
    refine GoO.effB (ef_buildSlice (ints [0, 2, 4]) rfl (by exact (Parts.cons _ _ _ _ _ _ _ _ ⟨rfl, rfl⟩ (by first | exact Part.one _ rfl rfl | exact Part.ag _ _ rfl) (by rfl) (by rfl) (Parts.cons _ _ _ _ _ _ _ _ ⟨rfl, rfl⟩ (by first | exact Part.one _ rfl rfl | exact Part.ag _ _ rfl) (by rfl) (by rfl) (Parts.cons _ _ _ _ _ _ _ _ ⟨rfl, rfl⟩ (by first | exact Part.one _ rfl rfl | exact Part.ag _ _ rfl) (by rfl) (by rfl) (Parts.nil _))))) rfl rfl rfl rfl) (fun β21 => ?_)
    refine GoO.guardT rfl rfl rfl ?_
    refine GoO.effC (ef_call rfl (by first | exact (Take.nil _) | exact (Take.cons _ _ _ _ _ (by first | exact Rem.p0 | exact Rem.p1 | exact Rem.p2 | exact Rem.p3 | exact Rem.p4 | exact Rem.p5 | exact Rem.p6 | exact Rem.p7 | exact Rem.p8 | exact Rem.p9 | exact Rem.p10 | exact Rem.p11 | exact Rem.p12 | exact Rem.p13) (Take.nil _)) | exact (Take.cons _ _ _ _ _ (by first | exact Rem.p0 | exact Rem.p1 | exact Rem.p2 | exact Rem.p3 | exact Rem.p4 | exact Rem.p5 | exact Rem.p6 | exact Rem.p7 | exact Rem.p8 | exact Rem.p9 | exact Rem.p10 | exact Rem.p11 | exact Rem.p12 | exact Rem.p13) (Take.cons _ _ _ _ _ (by first | exact Rem.p0 | exact Rem.p1 | exact Rem.p2 | exact Rem.p3 | exact Rem.p4 | exact Rem.p5 | exact Rem.p6 | exact Rem.p7 | exact Rem.p8 | exact Rem.p9 | exact Rem.p10 | exact Rem.p11 | exact Rem.p12 | exact Rem.p13) (Take.nil _))) | exact (Take.cons _ _ _ _ _ (by first | exact Rem.p0 | exact Rem.p1 | exact Rem.p2 | exact Rem.p3 | exact Rem.p4 | exact Rem.p5 | exact Rem.p6 | exact Rem.p7 | exact Rem.p8 | exact Rem.p9 | exact Rem.p10 | exact Rem.p11 | exact Rem.p12 | exact Rem.p13) (Take.cons _ _ _ _ _ (by first | exact Rem.p0 | exact Rem.p1 | exact Rem.p2 | exact Rem.p3 | exact Rem.p4 | exact Rem.p5 | exact Rem.p6 | exact Rem.p7 | exact Rem.p8 | exact Rem.p9 | exact Rem.p10 | exact Rem.p11 | exact Rem.p12 | exact Rem.p13) (Take.cons _ _ _ _ _ (by first | exact Rem.p0 | exact Rem.p1 | exact Rem.p2 | exact Rem.p3 | exact Rem.p4 | exact Rem.p5 | exact Rem.p6 | exact Rem.p7 | exact Rem.p8 | exact Rem.p9 | exact Rem.p10 | exact Rem.p11 | exact Rem.p12 | exact Rem.p13) (Take.nil _)))) | exact (Take.cons _ _ _ _ _ (by first | exact Rem.p0 | exact Rem.p1 | exact Rem.p2 | exact Rem.p3 | exact Rem.p4 | exact Rem.p5 | exact Rem.p6 | exact Rem.p7 | exact Rem.p8 | exact Rem.p9 | exact Rem.p10 | exact Rem.p11 | exact Rem.p12 | exact Rem.p13) (Take.cons _ _ _ _ _ (by first | exact Rem.p0 | exact Rem.p1 | exact Rem.p2 | exact Rem.p3 | exact Rem.p4 | exact Rem.p5 | exact Rem.p6 | exact Rem.p7 | exact Rem.p8 | exact Rem.p9 | exact Rem.p10 | exact Rem.p11 | exact Rem.p12 | exact Rem.p13) (Take.cons _ _ _ _ _ (by first | exact Rem.p0 | exact Rem.p1 | exact Rem.p2 | exact Rem.p3 | exact Rem.p4 | exact Rem.p5 | exact Rem.p6 | exact Rem.p7 | exact Rem.p8 | exact Rem.p9 | exact Rem.p10 | exact Rem.p11 | exact Rem.p12 | exact Rem.p13) (Take.cons _ _ _ _ _ (by first | exact Rem.p0 | exact Rem.p1 | exact Rem.p2 | exact Rem.p3 | exact Rem.p4 | exact Rem.p5 | exact Rem.p6 | exact Rem.p7 | exact Rem.p8 | exact Rem.p9 | exact Rem.p10 | exact Rem.p11 | exact Rem.p12 | exact Rem.p13) (Take.nil _)))))) (by exact LendL.cons (by first | exact Lend.refl _ _ | exact Lend.all' (by first | exact At.p0 | exact At.p1 | exact At.p2 | exact At.p3 | exact At.p4 | exact At.p5 | exact At.p6 | exact At.p7 | exact At.p8 | exact At.p9 | exact At.p10 | exact At.p11 | exact At.p12 | exact At.p13) (by rfl) (by rfl) | exact Lend.nil | exact Lend.e0 | exact Lend.agL (by repeat (first | exact LendL.nil | refine LendL.cons (by first | exact Lend.refl _ _ | exact Lend.all' (by first | exact At.p0 | exact At.p1 | exact At.p2 | exact At.p3 | exact At.p4 | exact At.p5 | exact At.p6 | exact At.p7 | exact At.p8 | exact At.p9 | exact At.p10 | exact At.p11 | exact At.p12 | exact At.p13) (by rfl) (by rfl) | exact Lend.nil) ?_))) (LendL.cons (by first | exact Lend.refl _ _ | exact Lend.all' (by first | exact At.p0 | exact At.p1 | exact At.p2 | exact At.p3 | exact At.p4 | exact At.p5 | exact At.p6 | exact At.p7 | exact At.p8 | exact At.p9 | exact At.p10 | exact At.p11 | exact At.p12 | exact At.p13) (by rfl) (by rfl) | exact Lend.nil | exact Lend.e0 | exact Lend.agL (by repeat (first | exact LendL.nil | refine LendL.cons (by first | exact Lend.refl _ _ | exact Lend.all' (by first | exact At.p0 | exact At.p1 | exact At.p2 | exact At.p3 | exact At.p4 | exact At.p5 | exact At.p6 | exact At.p7 | exact At.p8 | exact At.p9 | exact At.p10 | exact At.p11 | exact At.p12 | exact At.p13) (by rfl) (by rfl) | exact Lend.nil) ?_))) (LendL.nil))) (equalInts_spec [0, 2, 4] [0, 2, 4] (by decide)) rfl) (fun r H hp => ?_)
    obtain ⟨rfl, rfl⟩ := hp
    refine GoO.pure (ps_pickT rfl rfl rfl) ?_
    refine GoO.pure (ps_move rfl rfl) ?_
    first | refine GoO.guardD rfl rfl rfl rfl (fun h25 => ?_) (fun h25 => ?_) | refine GoO.guard rfl rfl rfl rfl (fun h25 => ?_) (fun h25 => ?_)
    · skip
      refine GoO.pure (ps_move rfl rfl) ?_
      refine GoO.guardT rfl rfl rfl ?_
      refine GoO.effB (ef_buildSlice (bools [true, true, true]) rfl (by exact (Parts.cons _ _ _ _ _ _ _ _ ⟨rfl, rfl⟩ (by first | exact Part.one _ rfl rfl | exact Part.ag _ _ rfl) (by rfl) (by rfl) (Parts.cons _ _ _ _ _ _ _ _ ⟨rfl, rfl⟩ (by first | exact Part.one _ rfl rfl | exact Part.ag _ _ rfl) (by rfl) (by rfl) (Parts.cons _ _ _ _ _ _ _ _ ⟨rfl, rfl⟩ (by first | exact Part.one _ rfl rfl | exact Part.ag _ _ rfl) (by rfl) (by rfl) (Parts.nil _))))) rfl rfl rfl rfl) (fun β27 => ?_)
      refine GoO.guardT rfl rfl rfl ?_
      refine GoO.effC (ef_call rfl (by first | exact (Take.nil _) | exact (Take.cons _ _ _ _ _ (by first | exact Rem.p0 | exact Rem.p1 | exact Rem.p2 | exact Rem.p3 | exact Rem.p4 | exact Rem.p5 | exact Rem.p6 | exact Rem.p7 | exact Rem.p8 | exact Rem.p9 | exact Rem.p10 | exact Rem.p11 | exact Rem.p12 | exact Rem.p13) (Take.nil _)) | exact (Take.cons _ _ _ _ _ (by first | exact Rem.p0 | exact Rem.p1 | exact Rem.p2 | exact Rem.p3 | exact Rem.p4 | exact Rem.p5 | exact Rem.p6 | exact Rem.p7 | exact Rem.p8 | exact Rem.p9 | exact Rem.p10 | exact Rem.p11 | exact Rem.p12 | exact Rem.p13) (Take.cons _ _ _ _ _ (by first | exact Rem.p0 | exact Rem.p1 | exact Rem.p2 | exact Rem.p3 | exact Rem.p4 | exact Rem.p5 | exact Rem.p6 | exact Rem.p7 | exact Rem.p8 | exact Rem.p9 | exact Rem.p10 | exact Rem.p11 | exact Rem.p12 | exact Rem.p13) (Take.nil _))) | exact (Take.cons _ _ _ _ _ (by first | exact Rem.p0 | exact Rem.p1 | exact Rem.p2 | exact Rem.p3 | exact Rem.p4 | exact Rem.p5 | exact Rem.p6 | exact Rem.p7 | exact Rem.p8 | exact Rem.p9 | exact Rem.p10 | exact Rem.p11 | exact Rem.p12 | exact Rem.p13) (Take.cons _ _ _ _ _ (by first | exact Rem.p0 | exact Rem.p1 | exact Rem.p2 | exact Rem.p3 | exact Rem.p4 | exact Rem.p5 | exact Rem.p6 | exact Rem.p7 | exact Rem.p8 | exact Rem.p9 | exact Rem.p10 | exact Rem.p11 | exact Rem.p12 | exact Rem.p13) (Take.cons _ _ _ _ _ (by first | exact Rem.p0 | exact Rem.p1 | exact Rem.p2 | exact Rem.p3 | exact Rem.p4 | exact Rem.p5 | exact Rem.p6 | exact Rem.p7 | exact Rem.p8 | exact Rem.p9 | exact Rem.p10 | exact Rem.p11 | exact Rem.p12 | exact Rem.p13) (Take.nil _)))) | exact (Take.cons _ _ _ _ _ (by first | exact Rem.p0 | exact Rem.p1 | exact Rem.p2 | exact Rem.p3 | exact Rem.p4 | exact Rem.p5 | exact Rem.p6 | exact Rem.p7 | exact Rem.p8 | exact Rem.p9 | exact Rem.p10 | exact Rem.p11 | exact Rem.p12 | exact Rem.p13) (Take.cons _ _ _ _ _ (by first | exact Rem.p0 | exact Rem.p1 | exact Rem.p2 | exact Rem.p3 | exact Rem.p4 | exact Rem.p5 | exact Rem.p6 | exact Rem.p7 | exact Rem.p8 | exact Rem.p9 | exact Rem.p10 | exact Rem.p11 | exact Rem.p12 | exact Rem.p13) (Take.cons _ _ _ _ _ (by first | exact Rem.p0 | exact Rem.p1 | exact Rem.p2 | exact Rem.p3 | exact Rem.p4 | exact Rem.p5 | exact Rem.p6 | exact Rem.p7 | exact Rem.p8 | exact Rem.p9 | exact Rem.p10 | exact Rem.p11 | exact Rem.p12 | exact Rem.p13) (Take.cons _ _ _ _ _ (by first | exact Rem.p0 | exact Rem.p1 | exact Rem.p2 | exact Rem.p3 | exact Rem.p4 | exact Rem.p5 | exact Rem.p6 | exact Rem.p7 | exact Rem.p8 | exact Rem.p9 | exact Rem.p10 | exact Rem.p11 | exact Rem.p12 | exact Rem.p13) (Take.nil _)))))) (by exact LendL.cons (by first | exact Lend.refl _ _ | exact Lend.all' (by first | exact At.p0 | exact At.p1 | exact At.p2 | exact At.p3 | exact At.p4 | exact At.p5 | exact At.p6 | exact At.p7 | exact At.p8 | exact At.p9 | exact At.p10 | exact At.p11 | exact At.p12 | exact At.p13) (by rfl) (by rfl) | exact Lend.nil | exact Lend.e0 | exact Lend.agL (by repeat (first | exact LendL.nil | refine LendL.cons (by first | exact Lend.refl _ _ | exact Lend.all' (by first | exact At.p0 | exact At.p1 | exact At.p2 | exact At.p3 | exact At.p4 | exact At.p5 | exact At.p6 | exact At.p7 | exact At.p8 | exact At.p9 | exact At.p10 | exact At.p11 | exact At.p12 | exact At.p13) (by rfl) (by rfl) | exact Lend.nil) ?_))) (LendL.cons (by first | exact Lend.refl _ _ | exact Lend.all' (by first | exact At.p0 | exact At.p1 | exact At.p2 | exact At.p3 | exact At.p4 | exact At.p5 | exact At.p6 | exact At.p7 | exact At.p8 | exact At.p9 | exact At.p10 | exact At.p11 | exact At.p12 | exact At.p13) (by rfl) (by rfl) | exact Lend.nil | exact Lend.e0 | exact Lend.agL (by repeat (first | exact LendL.nil | refine LendL.cons (by first | exact Lend.refl _ _ | exact Lend.all' (by first | exact At.p0 | exact At.p1 | exact At.p2 | exact At.p3 | exact At.p4 | exact At.p5 | exact At.p6 | exact At.p7 | exact At.p8 | exact At.p9 | exact At.p10 | exact At.p11 | exact At.p12 | exact At.p13) (by rfl) (by rfl) | exact Lend.nil) ?_))) (LendL.nil))) (equalBools_spec [true, true, true] [true, true, true] (by decide)) rfl) (fun r H hp => ?_)
      obtain ⟨rfl, rfl⟩ := hp
      refine GoO.pure (ps_pickT rfl rfl rfl) ?_
      refine GoO.pure (ps_assign rfl rfl) ?_
      refine GoO.nil ?_
      refine GoK.code ?_
      refine GoC.ret1 (H' := []) Try.results18 (ResD.tmp rfl) (by exact (Take.nil _)) ?_
      · first | exact ⟨rfl, rfl⟩ | exact absurd rfl ‹_› | exact ⟨bo_true rfl, rfl⟩
    · skip
      refine GoO.guardF rfl rfl rfl rfl ?_
      refine GoO.guardF rfl rfl rfl rfl ?_
      refine GoO.pure (ps_pickF rfl rfl rfl) ?_
      refine GoO.pure (ps_assign rfl rfl) ?_
      refine GoO.nil ?_
      refine GoK.code ?_
      refine GoC.ret1 (H' := []) Try.results18 (ResD.tmp rfl) (by exact (Take.nil _)) ?_
      · first | exact ⟨rfl, rfl⟩ | exact absurd rfl ‹_› | exact ⟨bo_true rfl, rfl⟩
  · skip
    refine GoO.guardF rfl rfl rfl rfl ?_
    refine GoO.guardF rfl rfl rfl rfl ?_
    refine GoO.pure (ps_pickF rfl rfl rfl) ?_
    refine GoO.pure (ps_move rfl rfl) ?_
    refine GoO.guardF rfl rfl rfl rfl ?_
    refine GoO.guardF rfl rfl rfl rfl ?_
    refine GoO.guardF rfl rfl rfl rfl ?_
    refine GoO.pure (ps_pickF rfl rfl rfl) ?_
    refine GoO.pure (ps_assign rfl rfl) ?_
    refine GoO.nil ?_
    refine GoK.code ?_
    refine GoC.ret1 (H' := []) Try.results18 (ResD.tmp rfl) (by exact (Take.nil _)) ?_
    · first | exact ⟨rfl, rfl⟩ | exact absurd rfl ‹_› | exact ⟨bo_true rfl, rfl⟩
set_option maxRecDepth 100000 in
set_option maxHeartbeats 400000 in
theorem shortSteps_spec (g : Graph) (s : Int) (_ : GIn g) (hs : InI s) : Does Try.prog 4 [graphD g, .i s] [] (fun d H => d = .bo true ∧ H = []) := by
  refine Does.intro Try.func4 rfl Try.ntmps4 rfl fun w0 I0 => ?_
  refine GoC.seq ?_
  refine GoC.region ?_
  refine GoO.effB (ef_boxAg rfl rfl) (fun β1 => ?_)
  refine GoO.pure (ps_assign rfl rfl) ?_
  refine GoO.nil ?_
  refine GoK.code ?_
  refine GoC.seq ?_
  refine GoC.seq ?_
  refine GoC.region ?_
  refine GoO.effC (ef_call rfl (by first | exact (Take.nil _) | exact (Take.cons _ _ _ _ _ (by first | exact Rem.p0 | exact Rem.p1 | exact Rem.p2 | exact Rem.p3 | exact Rem.p4 | exact Rem.p5 | exact Rem.p6 | exact Rem.p7 | exact Rem.p8 | exact Rem.p9 | exact Rem.p10 | exact Rem.p11 | exact Rem.p12 | exact Rem.p13) (Take.nil _)) | exact (Take.cons _ _ _ _ _ (by first | exact Rem.p0 | exact Rem.p1 | exact Rem.p2 | exact Rem.p3 | exact Rem.p4 | exact Rem.p5 | exact Rem.p6 | exact Rem.p7 | exact Rem.p8 | exact Rem.p9 | exact Rem.p10 | exact Rem.p11 | exact Rem.p12 | exact Rem.p13) (Take.cons _ _ _ _ _ (by first | exact Rem.p0 | exact Rem.p1 | exact Rem.p2 | exact Rem.p3 | exact Rem.p4 | exact Rem.p5 | exact Rem.p6 | exact Rem.p7 | exact Rem.p8 | exact Rem.p9 | exact Rem.p10 | exact Rem.p11 | exact Rem.p12 | exact Rem.p13) (Take.nil _))) | exact (Take.cons _ _ _ _ _ (by first | exact Rem.p0 | exact Rem.p1 | exact Rem.p2 | exact Rem.p3 | exact Rem.p4 | exact Rem.p5 | exact Rem.p6 | exact Rem.p7 | exact Rem.p8 | exact Rem.p9 | exact Rem.p10 | exact Rem.p11 | exact Rem.p12 | exact Rem.p13) (Take.cons _ _ _ _ _ (by first | exact Rem.p0 | exact Rem.p1 | exact Rem.p2 | exact Rem.p3 | exact Rem.p4 | exact Rem.p5 | exact Rem.p6 | exact Rem.p7 | exact Rem.p8 | exact Rem.p9 | exact Rem.p10 | exact Rem.p11 | exact Rem.p12 | exact Rem.p13) (Take.cons _ _ _ _ _ (by first | exact Rem.p0 | exact Rem.p1 | exact Rem.p2 | exact Rem.p3 | exact Rem.p4 | exact Rem.p5 | exact Rem.p6 | exact Rem.p7 | exact Rem.p8 | exact Rem.p9 | exact Rem.p10 | exact Rem.p11 | exact Rem.p12 | exact Rem.p13) (Take.nil _)))) | exact (Take.cons _ _ _ _ _ (by first | exact Rem.p0 | exact Rem.p1 | exact Rem.p2 | exact Rem.p3 | exact Rem.p4 | exact Rem.p5 | exact Rem.p6 | exact Rem.p7 | exact Rem.p8 | exact Rem.p9 | exact Rem.p10 | exact Rem.p11 | exact Rem.p12 | exact Rem.p13) (Take.cons _ _ _ _ _ (by first | exact Rem.p0 | exact Rem.p1 | exact Rem.p2 | exact Rem.p3 | exact Rem.p4 | exact Rem.p5 | exact Rem.p6 | exact Rem.p7 | exact Rem.p8 | exact Rem.p9 | exact Rem.p10 | exact Rem.p11 | exact Rem.p12 | exact Rem.p13) (Take.cons _ _ _ _ _ (by first | exact Rem.p0 | exact Rem.p1 | exact Rem.p2 | exact Rem.p3 | exact Rem.p4 | exact Rem.p5 | exact Rem.p6 | exact Rem.p7 | exact Rem.p8 | exact Rem.p9 | exact Rem.p10 | exact Rem.p11 | exact Rem.p12 | exact Rem.p13) (Take.cons _ _ _ _ _ (by first | exact Rem.p0 | exact Rem.p1 | exact Rem.p2 | exact Rem.p3 | exact Rem.p4 | exact Rem.p5 | exact Rem.p6 | exact Rem.p7 | exact Rem.p8 | exact Rem.p9 | exact Rem.p10 | exact Rem.p11 | exact Rem.p12 | exact Rem.p13) (Take.nil _)))))) (by exact LendL.nil) (shorts_spec) rfl) (fun r H hp => ?_)
  obtain ⟨rfl, rfl⟩ := hp
  first | refine GoO.pure (ps_notD rfl rfl) ?_ | refine GoO.pure (ps_not rfl rfl) ?_
  refine GoO.nil ?_
  refine GoK.code ?_
  refine GoC.condF rfl ?_
  refine GoC.skip ?_
  refine GoK.code ?_
  refine GoC.seq ?_
  refine GoC.region ?_
  first | refine GoO.pure (ps_loadAg rfl (by first | exact At.p0 | exact At.p1 | exact At.p2 | exact At.p3 | exact At.p4 | exact At.p5 | exact At.p6 | exact At.p7 | exact At.p8 | exact At.p9 | exact At.p10 | exact At.p11 | exact At.p12 | exact At.p13) (by first | exact At.p0 | exact At.p1 | exact At.p2 | exact At.p3 | exact At.p4 | exact At.p5 | exact At.p6 | exact At.p7 | exact At.p8 | exact At.p9 | exact At.p10 | exact At.p11 | exact At.p12 | exact At.p13) ?_ rfl rfl) ?_ | refine GoO.pure (ps_loadAgR rfl ?_ rfl rfl) ?_
  · first | exact Nat.zero_lt_one | assumption | omega | exact InI.of (by omega) (by omega) | (simp only [ints_len, bools_len, st1_len, arcs_len, lits_len, List.length_set, List.length_append, List.length_cons, List.length_nil, List.length_replicate]; omega)
  refine GoO.pure (ps_move rfl rfl) ?_
  refine GoO.effC (ef_call rfl (by first | exact (Take.nil _) | exact (Take.cons _ _ _ _ _ (by first | exact Rem.p0 | exact Rem.p1 | exact Rem.p2 | exact Rem.p3 | exact Rem.p4 | exact Rem.p5 | exact Rem.p6 | exact Rem.p7 | exact Rem.p8 | exact Rem.p9 | exact Rem.p10 | exact Rem.p11 | exact Rem.p12 | exact Rem.p13) (Take.nil _)) | exact (Take.cons _ _ _ _ _ (by first | exact Rem.p0 | exact Rem.p1 | exact Rem.p2 | exact Rem.p3 | exact Rem.p4 | exact Rem.p5 | exact Rem.p6 | exact Rem.p7 | exact Rem.p8 | exact Rem.p9 | exact Rem.p10 | exact Rem.p11 | exact Rem.p12 | exact Rem.p13) (Take.cons _ _ _ _ _ (by first | exact Rem.p0 | exact Rem.p1 | exact Rem.p2 | exact Rem.p3 | exact Rem.p4 | exact Rem.p5 | exact Rem.p6 | exact Rem.p7 | exact Rem.p8 | exact Rem.p9 | exact Rem.p10 | exact Rem.p11 | exact Rem.p12 | exact Rem.p13) (Take.nil _))) | exact (Take.cons _ _ _ _ _ (by first | exact Rem.p0 | exact Rem.p1 | exact Rem.p2 | exact Rem.p3 | exact Rem.p4 | exact Rem.p5 | exact Rem.p6 | exact Rem.p7 | exact Rem.p8 | exact Rem.p9 | exact Rem.p10 | exact Rem.p11 | exact Rem.p12 | exact Rem.p13) (Take.cons _ _ _ _ _ (by first | exact Rem.p0 | exact Rem.p1 | exact Rem.p2 | exact Rem.p3 | exact Rem.p4 | exact Rem.p5 | exact Rem.p6 | exact Rem.p7 | exact Rem.p8 | exact Rem.p9 | exact Rem.p10 | exact Rem.p11 | exact Rem.p12 | exact Rem.p13) (Take.cons _ _ _ _ _ (by first | exact Rem.p0 | exact Rem.p1 | exact Rem.p2 | exact Rem.p3 | exact Rem.p4 | exact Rem.p5 | exact Rem.p6 | exact Rem.p7 | exact Rem.p8 | exact Rem.p9 | exact Rem.p10 | exact Rem.p11 | exact Rem.p12 | exact Rem.p13) (Take.nil _)))) | exact (Take.cons _ _ _ _ _ (by first | exact Rem.p0 | exact Rem.p1 | exact Rem.p2 | exact Rem.p3 | exact Rem.p4 | exact Rem.p5 | exact Rem.p6 | exact Rem.p7 | exact Rem.p8 | exact Rem.p9 | exact Rem.p10 | exact Rem.p11 | exact Rem.p12 | exact Rem.p13) (Take.cons _ _ _ _ _ (by first | exact Rem.p0 | exact Rem.p1 | exact Rem.p2 | exact Rem.p3 | exact Rem.p4 | exact Rem.p5 | exact Rem.p6 | exact Rem.p7 | exact Rem.p8 | exact Rem.p9 | exact Rem.p10 | exact Rem.p11 | exact Rem.p12 | exact Rem.p13) (Take.cons _ _ _ _ _ (by first | exact Rem.p0 | exact Rem.p1 | exact Rem.p2 | exact Rem.p3 | exact Rem.p4 | exact Rem.p5 | exact Rem.p6 | exact Rem.p7 | exact Rem.p8 | exact Rem.p9 | exact Rem.p10 | exact Rem.p11 | exact Rem.p12 | exact Rem.p13) (Take.cons _ _ _ _ _ (by first | exact Rem.p0 | exact Rem.p1 | exact Rem.p2 | exact Rem.p3 | exact Rem.p4 | exact Rem.p5 | exact Rem.p6 | exact Rem.p7 | exact Rem.p8 | exact Rem.p9 | exact Rem.p10 | exact Rem.p11 | exact Rem.p12 | exact Rem.p13) (Take.nil _)))))) (by exact LendL.cons (by first | exact Lend.refl _ _ | exact Lend.all' (by first | exact At.p0 | exact At.p1 | exact At.p2 | exact At.p3 | exact At.p4 | exact At.p5 | exact At.p6 | exact At.p7 | exact At.p8 | exact At.p9 | exact At.p10 | exact At.p11 | exact At.p12 | exact At.p13) (by rfl) (by rfl) | exact Lend.nil | exact Lend.e0 | exact Lend.agL (by repeat (first | exact LendL.nil | refine LendL.cons (by first | exact Lend.refl _ _ | exact Lend.all' (by first | exact At.p0 | exact At.p1 | exact At.p2 | exact At.p3 | exact At.p4 | exact At.p5 | exact At.p6 | exact At.p7 | exact At.p8 | exact At.p9 | exact At.p10 | exact At.p11 | exact At.p12 | exact At.p13) (by rfl) (by rfl) | exact Lend.nil) ?_))) (LendL.cons (by first | exact Lend.refl _ _ | exact Lend.all' (by first | exact At.p0 | exact At.p1 | exact At.p2 | exact At.p3 | exact At.p4 | exact At.p5 | exact At.p6 | exact At.p7 | exact At.p8 | exact At.p9 | exact At.p10 | exact At.p11 | exact At.p12 | exact At.p13) (by rfl) (by rfl) | exact Lend.nil | exact Lend.e0 | exact Lend.agL (by repeat (first | exact LendL.nil | refine LendL.cons (by first | exact Lend.refl _ _ | exact Lend.all' (by first | exact At.p0 | exact At.p1 | exact At.p2 | exact At.p3 | exact At.p4 | exact At.p5 | exact At.p6 | exact At.p7 | exact At.p8 | exact At.p9 | exact At.p10 | exact At.p11 | exact At.p12 | exact At.p13) (by rfl) (by rfl) | exact Lend.nil) ?_))) (LendL.nil))) (from_spec g s hs) rfl) (fun r H hp => ?_)
  obtain ⟨βf, βk, rfl, rfl⟩ := hp
  refine GoO.pure (ps_move rfl rfl) ?_
  refine GoO.pure (ps_extract rfl rfl rfl) ?_
  refine GoO.pure (ps_extract rfl rfl rfl) ?_
  refine GoO.pure (ps_extract rfl rfl rfl) ?_
  refine GoO.pure (ps_assign rfl rfl) ?_
  refine GoO.pure (ps_assign rfl rfl) ?_
  refine GoO.pure (ps_assign rfl rfl) ?_
  refine GoO.nil ?_
  refine GoK.code ?_
  refine GoC.seq ?_
  refine GoC.seq ?_
  refine GoC.region ?_
  refine GoO.pure (ps_move rfl rfl) ?_
  first | refine GoO.pure (ps_neq rfl rfl rfl) ?_ | refine GoO.pure (ps_neqB rfl rfl rfl) ?_ | refine GoO.pure (ps_neqA rfl rfl rfl rfl) ?_
  refine GoO.nil ?_
  refine GoK.code ?_
  first | refine GoC.condD rfl (fun h17 => ?_) (fun h17 => ?_) | refine GoC.cond rfl (fun h17 => ?_) (fun h17 => ?_)
  · skip
    first | have hf := from_ok (Classical.not_not.1 ‹¬ (fromF g s).1 ≠ 0›) | have he := from_err ‹(fromF g s).1 ≠ 0›
    first | have he1 : (fromF g s).2.1.length = 0 := (by rw [he]; rfl) | have he1 := hf.l1
    first | have he2 : (fromF g s).2.2.length = 0 := (by rw [he]; rfl) | have he2 := hf.l2
    first | have hn0 := hf.ok.n0 | skip
    first | have hn1 := hf.ok.n1 | skip
    first | have hal := hf.ok.len | skip
    first | have hs0 := hf.s0 | skip
    first | have hs1 := hf.s1 | skip
    refine GoC.seq ?_
    refine GoC.region ?_
    refine GoO.pure (ps_move rfl rfl) ?_
    refine GoO.pure (ps_len rfl (by constructor) rfl) ?_
    refine GoO.pure (ps_move rfl rfl) ?_
    refine GoO.pure (ps_len rfl (by constructor) rfl) ?_
    refine GoO.pure (ps_add rfl rfl rfl ?_) ?_
    · first | exact Nat.zero_lt_one | assumption | omega | exact InI.of (by omega) (by omega) | (simp only [ints_len, bools_len, st1_len, arcs_len, lits_len, List.length_set, List.length_append, List.length_cons, List.length_nil, List.length_replicate]; omega)
    first | refine GoO.pure (ps_eql rfl rfl rfl) ?_ | refine GoO.pure (ps_eqlB rfl rfl rfl) ?_ | refine GoO.pure (ps_eqlA rfl rfl rfl rfl) ?_
    refine GoO.pure (ps_assign rfl rfl) ?_
    refine GoO.nil ?_
    refine GoK.code ?_
    refine GoC.ret1 (H' := []) Try.results4 (ResD.tmp rfl) (by exact (Take.nil _)) ?_
    · exact ⟨bo_true (by omega), rfl⟩
  · skip
    first | have hf := from_ok (Classical.not_not.1 ‹¬ (fromF g s).1 ≠ 0›) | have he := from_err ‹(fromF g s).1 ≠ 0›
    first | have he1 : (fromF g s).2.1.length = 0 := (by rw [he]; rfl) | have he1 := hf.l1
    first | have he2 : (fromF g s).2.2.length = 0 := (by rw [he]; rfl) | have he2 := hf.l2
    first | have hn0 := hf.ok.n0 | skip
    first | have hn1 := hf.ok.n1 | skip
    first | have hal := hf.ok.len | skip
    first | have hs0 := hf.s0 | skip
    first | have hs1 := hf.s1 | skip
    refine GoC.skip ?_
    refine GoK.code ?_
    refine GoC.seq ?_
    refine GoC.seq ?_
    refine GoC.region ?_
    refine GoO.pure (ps_move rfl rfl) ?_
    refine GoO.pure (ps_len rfl (by constructor) rfl) ?_
    first | refine GoO.pure (ps_fieldAddr rfl rfl) ?_ | refine GoO.pure (ps_fieldAddrR rfl rfl) ?_
    first | refine GoO.pure (ps_load rfl (by first | exact At.p0 | exact At.p1 | exact At.p2 | exact At.p3 | exact At.p4 | exact At.p5 | exact At.p6 | exact At.p7 | exact At.p8 | exact At.p9 | exact At.p10 | exact At.p11 | exact At.p12 | exact At.p13) (by first | exact At.p0 | exact At.p1 | exact At.p2 | exact At.p3 | exact At.p4 | exact At.p5 | exact At.p6 | exact At.p7 | exact At.p8 | exact At.p9 | exact At.p10 | exact At.p11 | exact At.p12 | exact At.p13) ?_ rfl rfl) ?_ | refine GoO.pure (ps_loadR rfl ?_ rfl rfl) ?_
    · first | exact Nat.zero_lt_one | assumption | omega | exact InI.of (by omega) (by omega) | (simp only [ints_len, bools_len, st1_len, arcs_len, lits_len, List.length_set, List.length_append, List.length_cons, List.length_nil, List.length_replicate]; omega)
    first | refine GoO.pure (ps_neq rfl rfl rfl) ?_ | refine GoO.pure (ps_neqB rfl rfl rfl) ?_ | refine GoO.pure (ps_neqA rfl rfl rfl rfl) ?_
    refine GoO.pure (ps_move rfl rfl) ?_
    first | refine GoO.guardE rfl rfl rfl rfl (fun h31 => ?_) (fun h31 => ?_) | refine GoO.guard rfl rfl rfl rfl (fun h31 => ?_) (fun h31 => ?_)
    · skip
      refine GoO.pure (ps_move rfl rfl) ?_
      refine GoO.guardT rfl rfl rfl ?_
      refine GoO.pure (ps_len rfl (by constructor) rfl) ?_
      refine GoO.guardT rfl rfl rfl ?_
      first | refine GoO.pure (ps_fieldAddr rfl rfl) ?_ | refine GoO.pure (ps_fieldAddrR rfl rfl) ?_
      refine GoO.guardT rfl rfl rfl ?_
      first | refine GoO.pure (ps_load rfl (by first | exact At.p0 | exact At.p1 | exact At.p2 | exact At.p3 | exact At.p4 | exact At.p5 | exact At.p6 | exact At.p7 | exact At.p8 | exact At.p9 | exact At.p10 | exact At.p11 | exact At.p12 | exact At.p13) (by first | exact At.p0 | exact At.p1 | exact At.p2 | exact At.p3 | exact At.p4 | exact At.p5 | exact At.p6 | exact At.p7 | exact At.p8 | exact At.p9 | exact At.p10 | exact At.p11 | exact At.p12 | exact At.p13) ?_ rfl rfl) ?_ | refine GoO.pure (ps_loadR rfl ?_ rfl rfl) ?_
      · first | exact Nat.zero_lt_one | assumption | omega | exact InI.of (by omega) (by omega) | (simp only [ints_len, bools_len, st1_len, arcs_len, lits_len, List.length_set, List.length_append, List.length_cons, List.length_nil, List.length_replicate]; omega)
      refine GoO.guardT rfl rfl rfl ?_
      first | refine GoO.pure (ps_neq rfl rfl rfl) ?_ | refine GoO.pure (ps_neqB rfl rfl rfl) ?_ | refine GoO.pure (ps_neqA rfl rfl rfl rfl) ?_
      refine GoO.pure (ps_pickF rfl rfl rfl) ?_
      refine GoO.pure (ps_move rfl rfl) ?_
      first | refine GoO.guardE rfl rfl rfl rfl (fun h39 => ?_) (fun h39 => ?_) | refine GoO.guard rfl rfl rfl rfl (fun h39 => ?_) (fun h39 => ?_)
      · skip
        refine GoO.pure (ps_move rfl rfl) ?_
        refine GoO.guardT rfl rfl rfl ?_
        refine GoO.pure (ps_lss rfl rfl rfl) ?_
        refine GoO.pure (ps_pickF rfl rfl rfl) ?_
        refine GoO.pure (ps_move rfl rfl) ?_
        first | refine GoO.guardE rfl rfl rfl rfl (fun h44 => ?_) (fun h44 => ?_) | refine GoO.guard rfl rfl rfl rfl (fun h44 => ?_) (fun h44 => ?_)
        · skip
          refine GoO.pure (ps_move rfl rfl) ?_
          refine GoO.guardT rfl rfl rfl ?_
          first | refine GoO.pure (ps_fieldAddr rfl rfl) ?_ | refine GoO.pure (ps_fieldAddrR rfl rfl) ?_
          refine GoO.guardT rfl rfl rfl ?_
          first | refine GoO.pure (ps_load rfl (by first | exact At.p0 | exact At.p1 | exact At.p2 | exact At.p3 | exact At.p4 | exact At.p5 | exact At.p6 | exact At.p7 | exact At.p8 | exact At.p9 | exact At.p10 | exact At.p11 | exact At.p12 | exact At.p13) (by first | exact At.p0 | exact At.p1 | exact At.p2 | exact At.p3 | exact At.p4 | exact At.p5 | exact At.p6 | exact At.p7 | exact At.p8 | exact At.p9 | exact At.p10 | exact At.p11 | exact At.p12 | exact At.p13) ?_ rfl rfl) ?_ | refine GoO.pure (ps_loadR rfl ?_ rfl rfl) ?_
          · first | exact Nat.zero_lt_one | assumption | omega | exact InI.of (by omega) (by omega) | (simp only [ints_len, bools_len, st1_len, arcs_len, lits_len, List.length_set, List.length_append, List.length_cons, List.length_nil, List.length_replicate]; omega)
          refine GoO.guardT rfl rfl rfl ?_
          refine GoO.pure (ps_geq rfl rfl rfl) ?_
          refine GoO.pure (ps_pickF rfl rfl rfl) ?_
          refine GoO.pure (ps_move rfl rfl) ?_
          first | refine GoO.guardE rfl rfl rfl rfl (fun h51 => ?_) (fun h51 => ?_) | refine GoO.guard rfl rfl rfl rfl (fun h51 => ?_) (fun h51 => ?_)
          · skip
            refine GoO.pure (ps_move rfl rfl) ?_
            refine GoO.guardT rfl rfl rfl ?_
            refine GoO.pure (ps_move rfl rfl) ?_
            refine GoO.guardT rfl rfl rfl ?_
            first | refine GoO.pure (ps_indexAddr0N rfl rfl ?_ rfl) ?_ | refine GoO.pure (ps_indexAddrRN rfl rfl ?_ rfl) ?_ | refine GoO.pure (ps_indexAddr0 rfl rfl ?_ rfl) ?_ | refine GoO.pure (ps_indexAddrN rfl rfl ?_ rfl) ?_ | refine GoO.pure (ps_indexAddrRN rfl rfl ?_ rfl) ?_ | refine GoO.pure (ps_indexAddr rfl rfl ?_ rfl) ?_ | refine GoO.pure (ps_indexAddrR rfl rfl ?_ rfl) ?_
            · first | exact Nat.zero_lt_one | assumption | omega | exact InI.of (by omega) (by omega) | (simp only [ints_len, bools_len, st1_len, arcs_len, lits_len, List.length_set, List.length_append, List.length_cons, List.length_nil, List.length_replicate]; omega)
            refine GoO.guardT rfl rfl rfl ?_
            first | refine GoO.pure (ps_load rfl (by first | exact At.p0 | exact At.p1 | exact At.p2 | exact At.p3 | exact At.p4 | exact At.p5 | exact At.p6 | exact At.p7 | exact At.p8 | exact At.p9 | exact At.p10 | exact At.p11 | exact At.p12 | exact At.p13) (by first | exact At.p0 | exact At.p1 | exact At.p2 | exact At.p3 | exact At.p4 | exact At.p5 | exact At.p6 | exact At.p7 | exact At.p8 | exact At.p9 | exact At.p10 | exact At.p11 | exact At.p12 | exact At.p13) ?_ rfl rfl) ?_ | refine GoO.pure (ps_loadR rfl ?_ rfl rfl) ?_
            · first | exact Nat.zero_lt_one | assumption | omega | exact InI.of (by omega) (by omega) | (simp only [ints_len, bools_len, st1_len, arcs_len, lits_len, List.length_set, List.length_append, List.length_cons, List.length_nil, List.length_replicate]; omega)
            refine GoO.guardT rfl rfl rfl ?_
            first | refine GoO.pure (ps_notD rfl rfl) ?_ | refine GoO.pure (ps_not rfl rfl) ?_
            refine GoO.pure (ps_pickF rfl rfl rfl) ?_
            refine GoO.pure (ps_move rfl rfl) ?_
            first | refine GoO.guardE rfl rfl rfl rfl (fun h59 => ?_) (fun h59 => ?_) | refine GoO.guard rfl rfl rfl rfl (fun h59 => ?_) (fun h59 => ?_)
            · skip
              refine GoO.pure (ps_move rfl rfl) ?_
              refine GoO.guardT rfl rfl rfl ?_
              refine GoO.pure (ps_move rfl rfl) ?_
              refine GoO.guardT rfl rfl rfl ?_
              first | refine GoO.pure (ps_indexAddr0N rfl rfl ?_ rfl) ?_ | refine GoO.pure (ps_indexAddrRN rfl rfl ?_ rfl) ?_ | refine GoO.pure (ps_indexAddr0 rfl rfl ?_ rfl) ?_ | refine GoO.pure (ps_indexAddrN rfl rfl ?_ rfl) ?_ | refine GoO.pure (ps_indexAddrRN rfl rfl ?_ rfl) ?_ | refine GoO.pure (ps_indexAddr rfl rfl ?_ rfl) ?_ | refine GoO.pure (ps_indexAddrR rfl rfl ?_ rfl) ?_
              · first | exact Nat.zero_lt_one | assumption | omega | exact InI.of (by omega) (by omega) | (simp only [ints_len, bools_len, st1_len, arcs_len, lits_len, List.length_set, List.length_append, List.length_cons, List.length_nil, List.length_replicate]; omega)
              refine GoO.guardT rfl rfl rfl ?_
              first | refine GoO.pure (ps_load rfl (by first | exact At.p0 | exact At.p1 | exact At.p2 | exact At.p3 | exact At.p4 | exact At.p5 | exact At.p6 | exact At.p7 | exact At.p8 | exact At.p9 | exact At.p10 | exact At.p11 | exact At.p12 | exact At.p13) (by first | exact At.p0 | exact At.p1 | exact At.p2 | exact At.p3 | exact At.p4 | exact At.p5 | exact At.p6 | exact At.p7 | exact At.p8 | exact At.p9 | exact At.p10 | exact At.p11 | exact At.p12 | exact At.p13) ?_ rfl rfl) ?_ | refine GoO.pure (ps_loadR rfl ?_ rfl rfl) ?_
              · first | exact Nat.zero_lt_one | assumption | omega | exact InI.of (by omega) (by omega) | (simp only [ints_len, bools_len, st1_len, arcs_len, lits_len, List.length_set, List.length_append, List.length_cons, List.length_nil, List.length_replicate]; omega)
              refine GoO.guardT rfl rfl rfl ?_
              first | refine GoO.pure (ps_neq rfl rfl rfl) ?_ | refine GoO.pure (ps_neqB rfl rfl rfl) ?_ | refine GoO.pure (ps_neqA rfl rfl rfl rfl) ?_
              refine GoO.pure (ps_pickF rfl rfl rfl) ?_
              refine GoO.nil ?_
              refine GoK.code ?_
              first | refine GoC.condD rfl (fun h66 => ?_) (fun h66 => ?_) | refine GoC.cond rfl (fun h66 => ?_) (fun h66 => ?_)
              · skip
                refine GoC.seq ?_
                refine GoC.region ?_
                refine GoO.pure (ps_assign rfl rfl) ?_
                refine GoO.nil ?_
                refine GoK.code ?_
                refine GoC.ret1 (H' := []) Try.results4 (ResD.tmp rfl) (by exact (Take.nil _)) ?_
                · exfalso; have k1 := hf.ks; have k2 := hf.fs; first | omega | simp_all
              · skip
                refine GoC.skip ?_
                refine GoK.code ?_
                refine GoC.seq ?_
                refine GoC.region ?_
                first | refine GoO.pure (ps_fieldAddr rfl rfl) ?_ | refine GoO.pure (ps_fieldAddrR rfl rfl) ?_
                first | refine GoO.pure (ps_load rfl (by first | exact At.p0 | exact At.p1 | exact At.p2 | exact At.p3 | exact At.p4 | exact At.p5 | exact At.p6 | exact At.p7 | exact At.p8 | exact At.p9 | exact At.p10 | exact At.p11 | exact At.p12 | exact At.p13) (by first | exact At.p0 | exact At.p1 | exact At.p2 | exact At.p3 | exact At.p4 | exact At.p5 | exact At.p6 | exact At.p7 | exact At.p8 | exact At.p9 | exact At.p10 | exact At.p11 | exact At.p12 | exact At.p13) ?_ rfl rfl) ?_ | refine GoO.pure (ps_loadR rfl ?_ rfl rfl) ?_
                · first | exact Nat.zero_lt_one | assumption | omega | exact InI.of (by omega) (by omega) | (simp only [ints_len, bools_len, st1_len, arcs_len, lits_len, List.length_set, List.length_append, List.length_cons, List.length_nil, List.length_replicate]; omega)
                refine GoO.effB (ef_make rfl rfl ?_ ?_ rfl rfl) (fun β70 => ?_)
                · first | exact Nat.zero_lt_one | assumption | omega | exact InI.of (by omega) (by omega) | (simp only [ints_len, bools_len, st1_len, arcs_len, lits_len, List.length_set, List.length_append, List.length_cons, List.length_nil, List.length_replicate]; omega)
                · first | exact Nat.zero_lt_one | assumption | omega | exact InI.of (by omega) (by omega) | (simp only [ints_len, bools_len, st1_len, arcs_len, lits_len, List.length_set, List.length_append, List.length_cons, List.length_nil, List.length_replicate]; omega)
                refine GoO.pure (ps_assign rfl rfl) ?_
                refine GoO.nil ?_
                refine GoK.code ?_
                refine GoC.seq ?_
                refine GoC.region ?_
                refine GoO.pure (ps_move rfl rfl) ?_
                refine GoO.pure (ps_move rfl rfl) ?_
                first | refine GoO.pure (ps_indexAddr0N rfl rfl ?_ rfl) ?_ | refine GoO.pure (ps_indexAddrRN rfl rfl ?_ rfl) ?_ | refine GoO.pure (ps_indexAddr0 rfl rfl ?_ rfl) ?_ | refine GoO.pure (ps_indexAddrN rfl rfl ?_ rfl) ?_ | refine GoO.pure (ps_indexAddrRN rfl rfl ?_ rfl) ?_ | refine GoO.pure (ps_indexAddr rfl rfl ?_ rfl) ?_ | refine GoO.pure (ps_indexAddrR rfl rfl ?_ rfl) ?_
                · first | exact Nat.zero_lt_one | assumption | omega | exact InI.of (by omega) (by omega) | (simp only [ints_len, bools_len, st1_len, arcs_len, lits_len, List.length_set, List.length_append, List.length_cons, List.length_nil, List.length_replicate]; omega)
                refine GoO.eff1 (ef_store rfl rfl rfl (by first | exact At.p0 | exact At.p1 | exact At.p2 | exact At.p3 | exact At.p4 | exact At.p5 | exact At.p6 | exact At.p7 | exact At.p8 | exact At.p9 | exact At.p10 | exact At.p11 | exact At.p12 | exact At.p13) (by first | exact upd_ints | exact upd_bools | exact upd_st1) ?_ rfl) ?_
                · first | exact Nat.zero_lt_one | assumption | omega | exact InI.of (by omega) (by omega) | (simp only [ints_len, bools_len, st1_len, arcs_len, lits_len, List.length_set, List.length_append, List.length_cons, List.length_nil, List.length_replicate]; omega)
                refine GoO.nil ?_
                refine GoK.code ?_
                refine GoC.seq ?_
                refine GoC.seq ?_
                refine GoC.region ?_
                first | refine GoO.pure (ps_fieldAddr rfl rfl) ?_ | refine GoO.pure (ps_fieldAddrR rfl rfl) ?_
                first | refine GoO.pure (ps_load rfl (by first | exact At.p0 | exact At.p1 | exact At.p2 | exact At.p3 | exact At.p4 | exact At.p5 | exact At.p6 | exact At.p7 | exact At.p8 | exact At.p9 | exact At.p10 | exact At.p11 | exact At.p12 | exact At.p13) (by first | exact At.p0 | exact At.p1 | exact At.p2 | exact At.p3 | exact At.p4 | exact At.p5 | exact At.p6 | exact At.p7 | exact At.p8 | exact At.p9 | exact At.p10 | exact At.p11 | exact At.p12 | exact At.p13) ?_ rfl rfl) ?_ | refine GoO.pure (ps_loadR rfl ?_ rfl rfl) ?_
                · first | exact Nat.zero_lt_one | assumption | omega | exact InI.of (by omega) (by omega) | (simp only [ints_len, bools_len, st1_len, arcs_len, lits_len, List.length_set, List.length_append, List.length_cons, List.length_nil, List.length_replicate]; omega)
                refine GoO.pure (ps_len rfl (by constructor) rfl) ?_
                refine GoO.pure (ps_move rfl rfl) ?_
                refine GoO.nil ?_
                refine GoK.code ?_
                refine GoC.block ?_
                refine GoC.loopE (σ := Nat × List Bool) [5, 6, 8, 72, 73] (fun (k, hit) => [(74, .i (k : Int))]) (fun (k, hit) => [.one β70 4 1 (bools hit)]) (fun n (k, hit) => n = g.as.length - k ∧ HitI g s k hit) (g.as.length) (0, _) ?_ (by repeat (first | exact EnvLe.nil | refine EnvLe.cons rfl ?_)) (by exact (Take.cons _ _ _ _ _ (by first | exact Rem.p0 | exact Rem.p1 | exact Rem.p2 | exact Rem.p3 | exact Rem.p4 | exact Rem.p5 | exact Rem.p6 | exact Rem.p7 | exact Rem.p8 | exact Rem.p9 | exact Rem.p10 | exact Rem.p11 | exact Rem.p12 | exact Rem.p13) (Take.nil _))) ?_
                · exact ⟨rfl, Nat.zero_le _, by simp, by rw [getD_set, if_pos ⟨rfl, by simp; omega⟩], fun j hj => absurd hj (by omega)⟩
                rintro n ⟨k, hit⟩ ⟨rfl, hI⟩
                have hk := hI.le
                have hl := hI.l
                refine GoC.seq ?_
                refine GoC.region ?_
                refine GoO.pure (ps_lss rfl rfl rfl) ?_
                refine GoO.nil ?_
                refine GoK.code ?_
                refine GoC.seq ?_
                first | refine GoC.condD rfl (fun h81 => ?_) (fun h81 => ?_) | refine GoC.cond rfl (fun h81 => ?_) (fun h81 => ?_)
                · skip
                  have hlt : k < g.as.length := by omega
                  have ha := hf.ok.arc _ (mem_getD hlt)
                  have a1 := ha.f0
                  have a2 := ha.f1
                  have a3 := ha.t0
                  have a4 := ha.t1
                  have a5 := ha.c0
                  have a6 := ha.c1
                  have har := hf.arc _ (mem_getD hlt)
                  have b1 := hf.bd (g.as.getD k ⟨0, 0, 0⟩).f.toNat
                  refine GoC.skip ?_
                  refine GoK.code ?_
                  refine GoC.seq ?_
                  refine GoC.block ?_
                  refine GoC.seq ?_
                  refine GoC.region ?_
                  first | refine GoO.pure (ps_indexAddr0N rfl rfl ?_ rfl) ?_ | refine GoO.pure (ps_indexAddrRN rfl rfl ?_ rfl) ?_ | refine GoO.pure (ps_indexAddr0 rfl rfl ?_ rfl) ?_ | refine GoO.pure (ps_indexAddrN rfl rfl ?_ rfl) ?_ | refine GoO.pure (ps_indexAddrRN rfl rfl ?_ rfl) ?_ | refine GoO.pure (ps_indexAddr rfl rfl ?_ rfl) ?_ | refine GoO.pure (ps_indexAddrR rfl rfl ?_ rfl) ?_
                  · first | exact Nat.zero_lt_one | assumption | omega | exact InI.of (by omega) (by omega) | (simp only [ints_len, bools_len, st1_len, arcs_len, lits_len, List.length_set, List.length_append, List.length_cons, List.length_nil, List.length_replicate]; omega)
                  first | refine GoO.pure (ps_loadAg rfl (by first | exact At.p0 | exact At.p1 | exact At.p2 | exact At.p3 | exact At.p4 | exact At.p5 | exact At.p6 | exact At.p7 | exact At.p8 | exact At.p9 | exact At.p10 | exact At.p11 | exact At.p12 | exact At.p13) (by first | exact At.p0 | exact At.p1 | exact At.p2 | exact At.p3 | exact At.p4 | exact At.p5 | exact At.p6 | exact At.p7 | exact At.p8 | exact At.p9 | exact At.p10 | exact At.p11 | exact At.p12 | exact At.p13) ?_ rfl rfl) ?_ | refine GoO.pure (ps_loadAgR rfl ?_ rfl rfl) ?_
                  · first | exact Nat.zero_lt_one | assumption | omega | exact InI.of (by omega) (by omega) | (simp only [ints_len, bools_len, st1_len, arcs_len, lits_len, List.length_set, List.length_append, List.length_cons, List.length_nil, List.length_replicate]; omega)
                  refine GoO.effB (ef_alloc rfl) (fun β84 => ?_)
                  refine GoO.eff1 (ef_storeAg rfl rfl (by first | exact At.p0 | exact At.p1 | exact At.p2 | exact At.p3 | exact At.p4 | exact At.p5 | exact At.p6 | exact At.p7 | exact At.p8 | exact At.p9 | exact At.p10 | exact At.p11 | exact At.p12 | exact At.p13) upd_whole Nat.zero_lt_one rfl) ?_
                  refine GoO.nil ?_
                  refine GoK.code ?_
                  refine GoC.seq ?_
                  refine GoC.seq ?_
                  refine GoC.drawA (.q 0 (.q 1 (.q 2 (.q 3 (.q 4 (.q 5 (.q 6 (.q 7 (.q 8 (.q 9 (.q 10 (.q 11 (.q 12 (.q 13 (.q 14 (.q 15 (.q 16 (.q 17 (.q 18 (.q 19 (.q 20 (.q 21 (.q 22 (.q 23 (.q 24 (.q 25 (.q 26 (.q 27 (.q 28 (.done)))))))))))))))))))))))))))))) follows (by kernel_rfl) ?_
                  refine GoP.qN rfl (ps_move rfl rfl) ?_
                  first | refine GoP.qN rfl (ps_fieldAddr rfl rfl) ?_ | refine GoP.qN rfl (ps_fieldAddrR rfl rfl) ?_
                  first | refine GoP.qN rfl (ps_load rfl (by first | exact At.p0 | exact At.p1 | exact At.p2 | exact At.p3 | exact At.p4 | exact At.p5 | exact At.p6 | exact At.p7 | exact At.p8 | exact At.p9 | exact At.p10 | exact At.p11 | exact At.p12 | exact At.p13) (by first | exact At.p0 | exact At.p1 | exact At.p2 | exact At.p3 | exact At.p4 | exact At.p5 | exact At.p6 | exact At.p7 | exact At.p8 | exact At.p9 | exact At.p10 | exact At.p11 | exact At.p12 | exact At.p13) ?_ rfl rfl) ?_ | refine GoP.qN rfl (ps_loadR rfl ?_ rfl rfl) ?_
                  · first | exact Nat.zero_lt_one | assumption | omega | exact InI.of (by omega) (by omega) | (simp only [ints_len, bools_len, st1_len, arcs_len, lits_len, List.length_set, List.length_append, List.length_cons, List.length_nil, List.length_replicate]; omega)
                  first | refine GoP.qN rfl (ps_indexAddr0N rfl rfl ?_ rfl) ?_ | refine GoP.qN rfl (ps_indexAddrRN rfl rfl ?_ rfl) ?_ | refine GoP.qN rfl (ps_indexAddr0 rfl rfl ?_ rfl) ?_ | refine GoP.qN rfl (ps_indexAddrN rfl rfl ?_ rfl) ?_ | refine GoP.qN rfl (ps_indexAddrRN rfl rfl ?_ rfl) ?_ | refine GoP.qN rfl (ps_indexAddr rfl rfl ?_ rfl) ?_ | refine GoP.qN rfl (ps_indexAddrR rfl rfl ?_ rfl) ?_
                  · first | exact Nat.zero_lt_one | assumption | omega | exact InI.of (by omega) (by omega) | (simp only [ints_len, bools_len, st1_len, arcs_len, lits_len, List.length_set, List.length_append, List.length_cons, List.length_nil, List.length_replicate]; omega)
                  first | refine GoP.qN rfl (ps_load rfl (by first | exact At.p0 | exact At.p1 | exact At.p2 | exact At.p3 | exact At.p4 | exact At.p5 | exact At.p6 | exact At.p7 | exact At.p8 | exact At.p9 | exact At.p10 | exact At.p11 | exact At.p12 | exact At.p13) (by first | exact At.p0 | exact At.p1 | exact At.p2 | exact At.p3 | exact At.p4 | exact At.p5 | exact At.p6 | exact At.p7 | exact At.p8 | exact At.p9 | exact At.p10 | exact At.p11 | exact At.p12 | exact At.p13) ?_ rfl rfl) ?_ | refine GoP.qN rfl (ps_loadR rfl ?_ rfl rfl) ?_
                  · first | exact Nat.zero_lt_one | assumption | omega | exact InI.of (by omega) (by omega) | (simp only [ints_len, bools_len, st1_len, arcs_len, lits_len, List.length_set, List.length_append, List.length_cons, List.length_nil, List.length_replicate]; omega)
                  refine GoP.qN rfl (ps_move rfl rfl) ?_
                  first | refine GoP.decideD 83 rfl (fun h92 => ?_) (fun h92 => ?_) | refine GoP.decide 83 rfl (fun h92 => ?_) (fun h92 => ?_)
                  · skip
                    refine GoP.qT rfl rfl rfl rfl (ps_move rfl rfl) ?_
                    first | refine GoP.qT rfl rfl rfl rfl (ps_fieldAddr rfl rfl) ?_ | refine GoP.qT rfl rfl rfl rfl (ps_fieldAddrR rfl rfl) ?_
                    first | refine GoP.qT rfl rfl rfl rfl (ps_load rfl (by first | exact At.p0 | exact At.p1 | exact At.p2 | exact At.p3 | exact At.p4 | exact At.p5 | exact At.p6 | exact At.p7 | exact At.p8 | exact At.p9 | exact At.p10 | exact At.p11 | exact At.p12 | exact At.p13) (by first | exact At.p0 | exact At.p1 | exact At.p2 | exact At.p3 | exact At.p4 | exact At.p5 | exact At.p6 | exact At.p7 | exact At.p8 | exact At.p9 | exact At.p10 | exact At.p11 | exact At.p12 | exact At.p13) ?_ rfl rfl) ?_ | refine GoP.qT rfl rfl rfl rfl (ps_loadR rfl ?_ rfl rfl) ?_
                    · first | exact Nat.zero_lt_one | assumption | omega | exact InI.of (by omega) (by omega) | (simp only [ints_len, bools_len, st1_len, arcs_len, lits_len, List.length_set, List.length_append, List.length_cons, List.length_nil, List.length_replicate]; omega)
                    first | refine GoP.qT rfl rfl rfl rfl (ps_indexAddr0N rfl rfl ?_ rfl) ?_ | refine GoP.qT rfl rfl rfl rfl (ps_indexAddrRN rfl rfl ?_ rfl) ?_ | refine GoP.qT rfl rfl rfl rfl (ps_indexAddr0 rfl rfl ?_ rfl) ?_ | refine GoP.qT rfl rfl rfl rfl (ps_indexAddrN rfl rfl ?_ rfl) ?_ | refine GoP.qT rfl rfl rfl rfl (ps_indexAddrRN rfl rfl ?_ rfl) ?_ | refine GoP.qT rfl rfl rfl rfl (ps_indexAddr rfl rfl ?_ rfl) ?_ | refine GoP.qT rfl rfl rfl rfl (ps_indexAddrR rfl rfl ?_ rfl) ?_
                    · first | exact Nat.zero_lt_one | assumption | omega | exact InI.of (by omega) (by omega) | (simp only [ints_len, bools_len, st1_len, arcs_len, lits_len, List.length_set, List.length_append, List.length_cons, List.length_nil, List.length_replicate]; omega)
                    first | refine GoP.qT rfl rfl rfl rfl (ps_load rfl (by first | exact At.p0 | exact At.p1 | exact At.p2 | exact At.p3 | exact At.p4 | exact At.p5 | exact At.p6 | exact At.p7 | exact At.p8 | exact At.p9 | exact At.p10 | exact At.p11 | exact At.p12 | exact At.p13) (by first | exact At.p0 | exact At.p1 | exact At.p2 | exact At.p3 | exact At.p4 | exact At.p5 | exact At.p6 | exact At.p7 | exact At.p8 | exact At.p9 | exact At.p10 | exact At.p11 | exact At.p12 | exact At.p13) ?_ rfl rfl) ?_ | refine GoP.qT rfl rfl rfl rfl (ps_loadR rfl ?_ rfl rfl) ?_
                    · first | exact Nat.zero_lt_one | assumption | omega | exact InI.of (by omega) (by omega) | (simp only [ints_len, bools_len, st1_len, arcs_len, lits_len, List.length_set, List.length_append, List.length_cons, List.length_nil, List.length_replicate]; omega)
                    first | refine GoP.qT rfl rfl rfl rfl (ps_notD rfl rfl) ?_ | refine GoP.qT rfl rfl rfl rfl (ps_not rfl rfl) ?_
                    refine GoP.qT rfl rfl rfl rfl (ps_move rfl rfl) ?_
                    first | refine GoP.decideD 90 rfl (fun h100 => ?_) (fun h100 => ?_) | refine GoP.decide 90 rfl (fun h100 => ?_) (fun h100 => ?_)
                    · skip
                      refine GoP.qF rfl rfl rfl rfl rfl ?_
                      refine GoP.qF rfl rfl rfl rfl rfl ?_
                      refine GoP.qF rfl rfl rfl rfl rfl ?_
                      refine GoP.qF rfl rfl rfl rfl rfl ?_
                      refine GoP.qF rfl rfl rfl rfl rfl ?_
                      refine GoP.qF rfl rfl rfl rfl rfl ?_
                      refine GoP.qF rfl rfl rfl rfl rfl ?_
                      refine GoP.qF rfl rfl rfl rfl rfl ?_
                      refine GoP.qF rfl rfl rfl rfl rfl ?_
                      refine GoP.qF rfl rfl rfl rfl rfl ?_
                      refine GoP.qF rfl rfl rfl rfl rfl ?_
                      refine GoP.qF rfl rfl rfl rfl rfl ?_
                      refine GoP.qF rfl rfl rfl rfl rfl ?_
                      refine GoP.qF rfl rfl rfl rfl rfl ?_
                      refine GoP.qT rfl rfl rfl rfl (ps_pickT rfl rfl rfl) ?_
                      refine GoP.qN rfl (ps_pickT rfl rfl rfl) ?_
                      refine GoP.done ?_
                      refine GoK.code ?_
                      refine GoC.condT rfl ?_
                      refine GoC.seq ?_
                      refine GoC.region ?_
                      refine GoO.pure (ps_assign rfl rfl) ?_
                      refine GoO.nil ?_
                      refine GoK.code ?_
                      refine GoC.ret1 (H' := []) Try.results4 (ResD.tmp rfl) (by exact (Take.nil _)) ?_
                      · exfalso; first | (have k1 := har ‹_›; first | omega | (obtain ⟨k2, k3⟩ := k1; first | omega | simp_all)) | skip
                    · skip
                      refine GoP.qT rfl rfl rfl rfl (ps_move rfl rfl) ?_
                      first | refine GoP.qT rfl rfl rfl rfl (ps_fieldAddr rfl rfl) ?_ | refine GoP.qT rfl rfl rfl rfl (ps_fieldAddrR rfl rfl) ?_
                      first | refine GoP.qT rfl rfl rfl rfl (ps_load rfl (by first | exact At.p0 | exact At.p1 | exact At.p2 | exact At.p3 | exact At.p4 | exact At.p5 | exact At.p6 | exact At.p7 | exact At.p8 | exact At.p9 | exact At.p10 | exact At.p11 | exact At.p12 | exact At.p13) (by first | exact At.p0 | exact At.p1 | exact At.p2 | exact At.p3 | exact At.p4 | exact At.p5 | exact At.p6 | exact At.p7 | exact At.p8 | exact At.p9 | exact At.p10 | exact At.p11 | exact At.p12 | exact At.p13) ?_ rfl rfl) ?_ | refine GoP.qT rfl rfl rfl rfl (ps_loadR rfl ?_ rfl rfl) ?_
                      · first | exact Nat.zero_lt_one | assumption | omega | exact InI.of (by omega) (by omega) | (simp only [ints_len, bools_len, st1_len, arcs_len, lits_len, List.length_set, List.length_append, List.length_cons, List.length_nil, List.length_replicate]; omega)
                      first | refine GoP.qT rfl rfl rfl rfl (ps_indexAddr0N rfl rfl ?_ rfl) ?_ | refine GoP.qT rfl rfl rfl rfl (ps_indexAddrRN rfl rfl ?_ rfl) ?_ | refine GoP.qT rfl rfl rfl rfl (ps_indexAddr0 rfl rfl ?_ rfl) ?_ | refine GoP.qT rfl rfl rfl rfl (ps_indexAddrN rfl rfl ?_ rfl) ?_ | refine GoP.qT rfl rfl rfl rfl (ps_indexAddrRN rfl rfl ?_ rfl) ?_ | refine GoP.qT rfl rfl rfl rfl (ps_indexAddr rfl rfl ?_ rfl) ?_ | refine GoP.qT rfl rfl rfl rfl (ps_indexAddrR rfl rfl ?_ rfl) ?_
                      · first | exact Nat.zero_lt_one | assumption | omega | exact InI.of (by omega) (by omega) | (simp only [ints_len, bools_len, st1_len, arcs_len, lits_len, List.length_set, List.length_append, List.length_cons, List.length_nil, List.length_replicate]; omega)
                      first | refine GoP.qT rfl rfl rfl rfl (ps_load rfl (by first | exact At.p0 | exact At.p1 | exact At.p2 | exact At.p3 | exact At.p4 | exact At.p5 | exact At.p6 | exact At.p7 | exact At.p8 | exact At.p9 | exact At.p10 | exact At.p11 | exact At.p12 | exact At.p13) (by first | exact At.p0 | exact At.p1 | exact At.p2 | exact At.p3 | exact At.p4 | exact At.p5 | exact At.p6 | exact At.p7 | exact At.p8 | exact At.p9 | exact At.p10 | exact At.p11 | exact At.p12 | exact At.p13) ?_ rfl rfl) ?_ | refine GoP.qT rfl rfl rfl rfl (ps_loadR rfl ?_ rfl rfl) ?_
                      · first | exact Nat.zero_lt_one | assumption | omega | exact InI.of (by omega) (by omega) | (simp only [ints_len, bools_len, st1_len, arcs_len, lits_len, List.length_set, List.length_append, List.length_cons, List.length_nil, List.length_replicate]; omega)
                      refine GoP.qT rfl rfl rfl rfl (ps_move rfl rfl) ?_
                      first | refine GoP.qT rfl rfl rfl rfl (ps_fieldAddr rfl rfl) ?_ | refine GoP.qT rfl rfl rfl rfl (ps_fieldAddrR rfl rfl) ?_
                      first | refine GoP.qT rfl rfl rfl rfl (ps_load rfl (by first | exact At.p0 | exact At.p1 | exact At.p2 | exact At.p3 | exact At.p4 | exact At.p5 | exact At.p6 | exact At.p7 | exact At.p8 | exact At.p9 | exact At.p10 | exact At.p11 | exact At.p12 | exact At.p13) (by first | exact At.p0 | exact At.p1 | exact At.p2 | exact At.p3 | exact At.p4 | exact At.p5 | exact At.p6 | exact At.p7 | exact At.p8 | exact At.p9 | exact At.p10 | exact At.p11 | exact At.p12 | exact At.p13) ?_ rfl rfl) ?_ | refine GoP.qT rfl rfl rfl rfl (ps_loadR rfl ?_ rfl rfl) ?_
                      · first | exact Nat.zero_lt_one | assumption | omega | exact InI.of (by omega) (by omega) | (simp only [ints_len, bools_len, st1_len, arcs_len, lits_len, List.length_set, List.length_append, List.length_cons, List.length_nil, List.length_replicate]; omega)
                      first | refine GoP.qT rfl rfl rfl rfl (ps_indexAddr0N rfl rfl ?_ rfl) ?_ | refine GoP.qT rfl rfl rfl rfl (ps_indexAddrRN rfl rfl ?_ rfl) ?_ | refine GoP.qT rfl rfl rfl rfl (ps_indexAddr0 rfl rfl ?_ rfl) ?_ | refine GoP.qT rfl rfl rfl rfl (ps_indexAddrN rfl rfl ?_ rfl) ?_ | refine GoP.qT rfl rfl rfl rfl (ps_indexAddrRN rfl rfl ?_ rfl) ?_ | refine GoP.qT rfl rfl rfl rfl (ps_indexAddr rfl rfl ?_ rfl) ?_ | refine GoP.qT rfl rfl rfl rfl (ps_indexAddrR rfl rfl ?_ rfl) ?_
                      · first | exact Nat.zero_lt_one | assumption | omega | exact InI.of (by omega) (by omega) | (simp only [ints_len, bools_len, st1_len, arcs_len, lits_len, List.length_set, List.length_append, List.length_cons, List.length_nil, List.length_replicate]; omega)
                      first | refine GoP.qT rfl rfl rfl rfl (ps_load rfl (by first | exact At.p0 | exact At.p1 | exact At.p2 | exact At.p3 | exact At.p4 | exact At.p5 | exact At.p6 | exact At.p7 | exact At.p8 | exact At.p9 | exact At.p10 | exact At.p11 | exact At.p12 | exact At.p13) (by first | exact At.p0 | exact At.p1 | exact At.p2 | exact At.p3 | exact At.p4 | exact At.p5 | exact At.p6 | exact At.p7 | exact At.p8 | exact At.p9 | exact At.p10 | exact At.p11 | exact At.p12 | exact At.p13) ?_ rfl rfl) ?_ | refine GoP.qT rfl rfl rfl rfl (ps_loadR rfl ?_ rfl rfl) ?_
                      · first | exact Nat.zero_lt_one | assumption | omega | exact InI.of (by omega) (by omega) | (simp only [ints_len, bools_len, st1_len, arcs_len, lits_len, List.length_set, List.length_append, List.length_cons, List.length_nil, List.length_replicate]; omega)
                      first | refine GoP.qT rfl rfl rfl rfl (ps_fieldAddr rfl rfl) ?_ | refine GoP.qT rfl rfl rfl rfl (ps_fieldAddrR rfl rfl) ?_
                      first | refine GoP.qT rfl rfl rfl rfl (ps_load rfl (by first | exact At.p0 | exact At.p1 | exact At.p2 | exact At.p3 | exact At.p4 | exact At.p5 | exact At.p6 | exact At.p7 | exact At.p8 | exact At.p9 | exact At.p10 | exact At.p11 | exact At.p12 | exact At.p13) (by first | exact At.p0 | exact At.p1 | exact At.p2 | exact At.p3 | exact At.p4 | exact At.p5 | exact At.p6 | exact At.p7 | exact At.p8 | exact At.p9 | exact At.p10 | exact At.p11 | exact At.p12 | exact At.p13) ?_ rfl rfl) ?_ | refine GoP.qT rfl rfl rfl rfl (ps_loadR rfl ?_ rfl rfl) ?_
                      · first | exact Nat.zero_lt_one | assumption | omega | exact InI.of (by omega) (by omega) | (simp only [ints_len, bools_len, st1_len, arcs_len, lits_len, List.length_set, List.length_append, List.length_cons, List.length_nil, List.length_replicate]; omega)
                      refine GoP.qT rfl rfl rfl rfl (ps_add rfl rfl rfl ?_) ?_
                      · first | exact Nat.zero_lt_one | assumption | omega | exact InI.of (by omega) (by omega) | (simp only [ints_len, bools_len, st1_len, arcs_len, lits_len, List.length_set, List.length_append, List.length_cons, List.length_nil, List.length_replicate]; omega)
                      refine GoP.qT rfl rfl rfl rfl (ps_gtr rfl rfl rfl) ?_
                      refine GoP.qT rfl rfl rfl rfl (ps_pickF rfl rfl rfl) ?_
                      refine GoP.qN rfl (ps_pickT rfl rfl rfl) ?_
                      refine GoP.done ?_
                      refine GoK.code ?_
                      first | refine GoC.condD rfl (fun h120 => ?_) (fun h120 => ?_) | refine GoC.cond rfl (fun h120 => ?_) (fun h120 => ?_)
                      · skip
                        refine GoC.seq ?_
                        refine GoC.region ?_
                        refine GoO.pure (ps_assign rfl rfl) ?_
                        refine GoO.nil ?_
                        refine GoK.code ?_
                        refine GoC.ret1 (H' := []) Try.results4 (ResD.tmp rfl) (by exact (Take.nil _)) ?_
                        · exfalso; first | (have k1 := har ‹_›; first | omega | (obtain ⟨k2, k3⟩ := k1; first | omega | simp_all)) | skip
                      · skip
                        refine GoC.skip ?_
                        refine GoK.code ?_
                        refine GoC.drawP (.q 0 (.q 1 (.q 2 (.q 3 (.q 4 (.q 5 (.q 6 (.one 7 (.q 8 (.q 9 (.q 10 (.q 11 (.q 12 (.q 13 (.q 14 (.q 15 (.q 16 (.q 17 (.q 18 (.q 19 (.q 20 (.q 21 (.q 22 (.q 23 (.q 24 (.q 25 (.q 26 (.q 27 (.q 28 (.q 29 (.q 30 (.q 31 (.q 32 (.q 33 (.q 34 (.q 35 (.q 36 (.q 37 (.q 38 (.one 39 (.done))))))))))))))))))))))))))))))))))))))))) [(10, _, _, _), (6, _, _, _), (5, _, _, _)] follows (by kernel_rfl) (by exact (Take.cons _ _ _ _ _ (by first | exact Rem.p0 | exact Rem.p1 | exact Rem.p2 | exact Rem.p3 | exact Rem.p4 | exact Rem.p5 | exact Rem.p6 | exact Rem.p7 | exact Rem.p8 | exact Rem.p9 | exact Rem.p10 | exact Rem.p11 | exact Rem.p12 | exact Rem.p13) (Take.cons _ _ _ _ _ (by first | exact Rem.p0 | exact Rem.p1 | exact Rem.p2 | exact Rem.p3 | exact Rem.p4 | exact Rem.p5 | exact Rem.p6 | exact Rem.p7 | exact Rem.p8 | exact Rem.p9 | exact Rem.p10 | exact Rem.p11 | exact Rem.p12 | exact Rem.p13) (Take.cons _ _ _ _ _ (by first | exact Rem.p0 | exact Rem.p1 | exact Rem.p2 | exact Rem.p3 | exact Rem.p4 | exact Rem.p5 | exact Rem.p6 | exact Rem.p7 | exact Rem.p8 | exact Rem.p9 | exact Rem.p10 | exact Rem.p11 | exact Rem.p12 | exact Rem.p13) (Take.nil _))))) ?_
                        refine GoP.qN rfl (ps_move rfl rfl) ?_
                        first | refine GoP.qN rfl (ps_fieldAddr rfl rfl) ?_ | refine GoP.qN rfl (ps_fieldAddrR rfl rfl) ?_
                        first | refine GoP.qN rfl (ps_load rfl (by first | exact At.p0 | exact At.p1 | exact At.p2 | exact At.p3 | exact At.p4 | exact At.p5 | exact At.p6 | exact At.p7 | exact At.p8 | exact At.p9 | exact At.p10 | exact At.p11 | exact At.p12 | exact At.p13) (by first | exact At.p0 | exact At.p1 | exact At.p2 | exact At.p3 | exact At.p4 | exact At.p5 | exact At.p6 | exact At.p7 | exact At.p8 | exact At.p9 | exact At.p10 | exact At.p11 | exact At.p12 | exact At.p13) ?_ rfl rfl) ?_ | refine GoP.qN rfl (ps_loadR rfl ?_ rfl rfl) ?_
                        · first | exact Nat.zero_lt_one | assumption | omega | exact InI.of (by omega) (by omega) | (simp only [ints_len, bools_len, st1_len, arcs_len, lits_len, List.length_set, List.length_append, List.length_cons, List.length_nil, List.length_replicate]; omega)
                        refine GoP.qN rfl (ps_move rfl rfl) ?_
                        first | refine GoP.qN rfl (ps_fieldAddr rfl rfl) ?_ | refine GoP.qN rfl (ps_fieldAddrR rfl rfl) ?_
                        first | refine GoP.qN rfl (ps_load rfl (by first | exact At.p0 | exact At.p1 | exact At.p2 | exact At.p3 | exact At.p4 | exact At.p5 | exact At.p6 | exact At.p7 | exact At.p8 | exact At.p9 | exact At.p10 | exact At.p11 | exact At.p12 | exact At.p13) (by first | exact At.p0 | exact At.p1 | exact At.p2 | exact At.p3 | exact At.p4 | exact At.p5 | exact At.p6 | exact At.p7 | exact At.p8 | exact At.p9 | exact At.p10 | exact At.p11 | exact At.p12 | exact At.p13) ?_ rfl rfl) ?_ | refine GoP.qN rfl (ps_loadR rfl ?_ rfl rfl) ?_
                        · first | exact Nat.zero_lt_one | assumption | omega | exact InI.of (by omega) (by omega) | (simp only [ints_len, bools_len, st1_len, arcs_len, lits_len, List.length_set, List.length_append, List.length_cons, List.length_nil, List.length_replicate]; omega)
                        first | refine GoP.qN rfl (ps_indexAddr0N rfl rfl ?_ rfl) ?_ | refine GoP.qN rfl (ps_indexAddrRN rfl rfl ?_ rfl) ?_ | refine GoP.qN rfl (ps_indexAddr0 rfl rfl ?_ rfl) ?_ | refine GoP.qN rfl (ps_indexAddrN rfl rfl ?_ rfl) ?_ | refine GoP.qN rfl (ps_indexAddrRN rfl rfl ?_ rfl) ?_ | refine GoP.qN rfl (ps_indexAddr rfl rfl ?_ rfl) ?_ | refine GoP.qN rfl (ps_indexAddrR rfl rfl ?_ rfl) ?_
                        · first | exact Nat.zero_lt_one | assumption | omega | exact InI.of (by omega) (by omega) | (simp only [ints_len, bools_len, st1_len, arcs_len, lits_len, List.length_set, List.length_append, List.length_cons, List.length_nil, List.length_replicate]; omega)
                        first | refine GoP.oneN rfl (ps_load rfl (by first | exact At.p0 | exact At.p1 | exact At.p2 | exact At.p3 | exact At.p4 | exact At.p5 | exact At.p6 | exact At.p7 | exact At.p8 | exact At.p9 | exact At.p10 | exact At.p11 | exact At.p12 | exact At.p13) (by first | exact At.p0 | exact At.p1 | exact At.p2 | exact At.p3 | exact At.p4 | exact At.p5 | exact At.p6 | exact At.p7 | exact At.p8 | exact At.p9 | exact At.p10 | exact At.p11 | exact At.p12 | exact At.p13) ?_ rfl rfl) (by exact (Take.cons _ _ _ _ _ (by first | exact Rem.p0 | exact Rem.p1 | exact Rem.p2 | exact Rem.p3 | exact Rem.p4 | exact Rem.p5 | exact Rem.p6 | exact Rem.p7 | exact Rem.p8 | exact Rem.p9 | exact Rem.p10 | exact Rem.p11 | exact Rem.p12 | exact Rem.p13) (Take.cons _ _ _ _ _ (by first | exact Rem.p0 | exact Rem.p1 | exact Rem.p2 | exact Rem.p3 | exact Rem.p4 | exact Rem.p5 | exact Rem.p6 | exact Rem.p7 | exact Rem.p8 | exact Rem.p9 | exact Rem.p10 | exact Rem.p11 | exact Rem.p12 | exact Rem.p13) (Take.cons _ _ _ _ _ (by first | exact Rem.p0 | exact Rem.p1 | exact Rem.p2 | exact Rem.p3 | exact Rem.p4 | exact Rem.p5 | exact Rem.p6 | exact Rem.p7 | exact Rem.p8 | exact Rem.p9 | exact Rem.p10 | exact Rem.p11 | exact Rem.p12 | exact Rem.p13) (Take.nil _))))) ?_ | refine GoP.oneN rfl (ps_loadR rfl ?_ rfl rfl) (by exact (Take.cons _ _ _ _ _ (by first | exact Rem.p0 | exact Rem.p1 | exact Rem.p2 | exact Rem.p3 | exact Rem.p4 | exact Rem.p5 | exact Rem.p6 | exact Rem.p7 | exact Rem.p8 | exact Rem.p9 | exact Rem.p10 | exact Rem.p11 | exact Rem.p12 | exact Rem.p13) (Take.cons _ _ _ _ _ (by first | exact Rem.p0 | exact Rem.p1 | exact Rem.p2 | exact Rem.p3 | exact Rem.p4 | exact Rem.p5 | exact Rem.p6 | exact Rem.p7 | exact Rem.p8 | exact Rem.p9 | exact Rem.p10 | exact Rem.p11 | exact Rem.p12 | exact Rem.p13) (Take.cons _ _ _ _ _ (by first | exact Rem.p0 | exact Rem.p1 | exact Rem.p2 | exact Rem.p3 | exact Rem.p4 | exact Rem.p5 | exact Rem.p6 | exact Rem.p7 | exact Rem.p8 | exact Rem.p9 | exact Rem.p10 | exact Rem.p11 | exact Rem.p12 | exact Rem.p13) (Take.nil _))))) ?_
                        · first | exact Nat.zero_lt_one | assumption | omega | exact InI.of (by omega) (by omega) | (simp only [ints_len, bools_len, st1_len, arcs_len, lits_len, List.length_set, List.length_append, List.length_cons, List.length_nil, List.length_replicate]; omega)
                        refine GoP.qN rfl (ps_move rfl rfl) ?_
                        first | refine GoP.decideD 115 rfl (fun h131 => ?_) (fun h131 => ?_) | refine GoP.decide 115 rfl (fun h131 => ?_) (fun h131 => ?_)
                        · skip
                          refine GoP.qF rfl rfl rfl rfl rfl ?_
                          refine GoP.qF rfl rfl rfl rfl rfl ?_
                          refine GoP.qF rfl rfl rfl rfl rfl ?_
                          refine GoP.qF rfl rfl rfl rfl rfl ?_
                          refine GoP.qF rfl rfl rfl rfl rfl ?_
                          refine GoP.qF rfl rfl rfl rfl rfl ?_
                          refine GoP.qU rfl rfl rfl rfl rfl ?_
                          refine GoP.qU rfl rfl rfl rfl rfl ?_
                          refine GoP.qU rfl rfl rfl rfl rfl ?_
                          refine GoP.qU rfl rfl rfl rfl rfl ?_
                          refine GoP.qU rfl rfl rfl rfl rfl ?_
                          refine GoP.qF rfl rfl rfl rfl rfl ?_
                          refine GoP.qF rfl rfl rfl rfl rfl ?_
                          refine GoP.qU rfl rfl rfl rfl rfl ?_
                          refine GoP.qU rfl rfl rfl rfl rfl ?_
                          refine GoP.qU rfl rfl rfl rfl rfl ?_
                          refine GoP.qU rfl rfl rfl rfl rfl ?_
                          refine GoP.qU rfl rfl rfl rfl rfl ?_
                          refine GoP.qU rfl rfl rfl rfl rfl ?_
                          refine GoP.qU rfl rfl rfl rfl rfl ?_
                          refine GoP.qU rfl rfl rfl rfl rfl ?_
                          refine GoP.qU rfl rfl rfl rfl rfl ?_
                          refine GoP.qU rfl rfl rfl rfl rfl ?_
                          refine GoP.qU rfl rfl rfl rfl rfl ?_
                          refine GoP.qU rfl rfl rfl rfl rfl ?_
                          refine GoP.qU rfl rfl rfl rfl rfl ?_
                          refine GoP.qU rfl rfl rfl rfl rfl ?_
                          refine GoP.qF rfl rfl rfl rfl rfl ?_
                          refine GoP.qN rfl (ps_pickT rfl rfl rfl) ?_
                          first | refine GoP.qN rfl (ps_indexAddr0N rfl rfl ?_ rfl) ?_ | refine GoP.qN rfl (ps_indexAddrRN rfl rfl ?_ rfl) ?_ | refine GoP.qN rfl (ps_indexAddr0 rfl rfl ?_ rfl) ?_ | refine GoP.qN rfl (ps_indexAddrN rfl rfl ?_ rfl) ?_ | refine GoP.qN rfl (ps_indexAddrRN rfl rfl ?_ rfl) ?_ | refine GoP.qN rfl (ps_indexAddr rfl rfl ?_ rfl) ?_ | refine GoP.qN rfl (ps_indexAddrR rfl rfl ?_ rfl) ?_
                          · first | exact Nat.zero_lt_one | assumption | omega | exact InI.of (by omega) (by omega) | (simp only [ints_len, bools_len, st1_len, arcs_len, lits_len, List.length_set, List.length_append, List.length_cons, List.length_nil, List.length_replicate]; omega)
                          refine GoP.one1 rfl trivial (ef_store rfl rfl rfl (by first | exact At.p0 | exact At.p1 | exact At.p2 | exact At.p3 | exact At.p4 | exact At.p5 | exact At.p6 | exact At.p7 | exact At.p8 | exact At.p9 | exact At.p10 | exact At.p11 | exact At.p12 | exact At.p13) (by first | exact upd_ints | exact upd_bools | exact upd_st1) ?_ rfl) (by exact (Take.cons _ _ _ _ _ (by first | exact Rem.p0 | exact Rem.p1 | exact Rem.p2 | exact Rem.p3 | exact Rem.p4 | exact Rem.p5 | exact Rem.p6 | exact Rem.p7 | exact Rem.p8 | exact Rem.p9 | exact Rem.p10 | exact Rem.p11 | exact Rem.p12 | exact Rem.p13) (Take.cons _ _ _ _ _ (by first | exact Rem.p0 | exact Rem.p1 | exact Rem.p2 | exact Rem.p3 | exact Rem.p4 | exact Rem.p5 | exact Rem.p6 | exact Rem.p7 | exact Rem.p8 | exact Rem.p9 | exact Rem.p10 | exact Rem.p11 | exact Rem.p12 | exact Rem.p13) (Take.cons _ _ _ _ _ (by first | exact Rem.p0 | exact Rem.p1 | exact Rem.p2 | exact Rem.p3 | exact Rem.p4 | exact Rem.p5 | exact Rem.p6 | exact Rem.p7 | exact Rem.p8 | exact Rem.p9 | exact Rem.p10 | exact Rem.p11 | exact Rem.p12 | exact Rem.p13) (Take.cons _ _ _ _ _ (by first | exact Rem.p0 | exact Rem.p1 | exact Rem.p2 | exact Rem.p3 | exact Rem.p4 | exact Rem.p5 | exact Rem.p6 | exact Rem.p7 | exact Rem.p8 | exact Rem.p9 | exact Rem.p10 | exact Rem.p11 | exact Rem.p12 | exact Rem.p13) (Take.nil _)))))) ?_
                          · first | exact Nat.zero_lt_one | assumption | omega | exact InI.of (by omega) (by omega) | (simp only [ints_len, bools_len, st1_len, arcs_len, lits_len, List.length_set, List.length_append, List.length_cons, List.length_nil, List.length_replicate]; omega)
                          refine GoP.done ?_
                          refine GoK.blk ?_
                          refine GoK.code ?_
                          refine GoC.region ?_
                          refine GoO.pure (ps_add rfl rfl rfl ?_) ?_
                          · first | exact Nat.zero_lt_one | assumption | omega | exact InI.of (by omega) (by omega) | (simp only [ints_len, bools_len, st1_len, arcs_len, lits_len, List.length_set, List.length_append, List.length_cons, List.length_nil, List.length_replicate]; omega)
                          refine GoO.pure (ps_move rfl rfl) ?_
                          refine GoO.nil ?_
                          refine GoK.againE (g.as.length - (k + 1)) ((k + 1, _)) ?_ ?_ (by repeat (first | exact EnvLe.nil | refine EnvLe.cons rfl ?_)) (by repeat (first | exact Tk.all _ | exact Tk.nil | refine Tk.cons (by first | exact Rem.p0 | exact Rem.p1 | exact Rem.p2 | exact Rem.p3 | exact Rem.p4 | exact Rem.p5 | exact Rem.p6 | exact Rem.p7 | exact Rem.p8 | exact Rem.p9 | exact Rem.p10 | exact Rem.p11 | exact Rem.p12 | exact Rem.p13) ?_))
                          · omega
                          · exact ⟨rfl, hI.step hlt (by rintro (h | ⟨h, h2, h3⟩) <;> first | rfl | exact decide_eq_true (by omega) | simp_all) (by omega)⟩
                        · skip
                          refine GoP.qT rfl rfl rfl rfl (ps_move rfl rfl) ?_
                          first | refine GoP.qT rfl rfl rfl rfl (ps_fieldAddr rfl rfl) ?_ | refine GoP.qT rfl rfl rfl rfl (ps_fieldAddrR rfl rfl) ?_
                          first | refine GoP.qT rfl rfl rfl rfl (ps_load rfl (by first | exact At.p0 | exact At.p1 | exact At.p2 | exact At.p3 | exact At.p4 | exact At.p5 | exact At.p6 | exact At.p7 | exact At.p8 | exact At.p9 | exact At.p10 | exact At.p11 | exact At.p12 | exact At.p13) (by first | exact At.p0 | exact At.p1 | exact At.p2 | exact At.p3 | exact At.p4 | exact At.p5 | exact At.p6 | exact At.p7 | exact At.p8 | exact At.p9 | exact At.p10 | exact At.p11 | exact At.p12 | exact At.p13) ?_ rfl rfl) ?_ | refine GoP.qT rfl rfl rfl rfl (ps_loadR rfl ?_ rfl rfl) ?_
                          · first | exact Nat.zero_lt_one | assumption | omega | exact InI.of (by omega) (by omega) | (simp only [ints_len, bools_len, st1_len, arcs_len, lits_len, List.length_set, List.length_append, List.length_cons, List.length_nil, List.length_replicate]; omega)
                          first | refine GoP.qT rfl rfl rfl rfl (ps_indexAddr0N rfl rfl ?_ rfl) ?_ | refine GoP.qT rfl rfl rfl rfl (ps_indexAddrRN rfl rfl ?_ rfl) ?_ | refine GoP.qT rfl rfl rfl rfl (ps_indexAddr0 rfl rfl ?_ rfl) ?_ | refine GoP.qT rfl rfl rfl rfl (ps_indexAddrN rfl rfl ?_ rfl) ?_ | refine GoP.qT rfl rfl rfl rfl (ps_indexAddrRN rfl rfl ?_ rfl) ?_ | refine GoP.qT rfl rfl rfl rfl (ps_indexAddr rfl rfl ?_ rfl) ?_ | refine GoP.qT rfl rfl rfl rfl (ps_indexAddrR rfl rfl ?_ rfl) ?_
                          · first | exact Nat.zero_lt_one | assumption | omega | exact InI.of (by omega) (by omega) | (simp only [ints_len, bools_len, st1_len, arcs_len, lits_len, List.length_set, List.length_append, List.length_cons, List.length_nil, List.length_replicate]; omega)
                          first | refine GoP.qT rfl rfl rfl rfl (ps_load rfl (by first | exact At.p0 | exact At.p1 | exact At.p2 | exact At.p3 | exact At.p4 | exact At.p5 | exact At.p6 | exact At.p7 | exact At.p8 | exact At.p9 | exact At.p10 | exact At.p11 | exact At.p12 | exact At.p13) (by first | exact At.p0 | exact At.p1 | exact At.p2 | exact At.p3 | exact At.p4 | exact At.p5 | exact At.p6 | exact At.p7 | exact At.p8 | exact At.p9 | exact At.p10 | exact At.p11 | exact At.p12 | exact At.p13) ?_ rfl rfl) ?_ | refine GoP.qT rfl rfl rfl rfl (ps_loadR rfl ?_ rfl rfl) ?_
                          · first | exact Nat.zero_lt_one | assumption | omega | exact InI.of (by omega) (by omega) | (simp only [ints_len, bools_len, st1_len, arcs_len, lits_len, List.length_set, List.length_append, List.length_cons, List.length_nil, List.length_replicate]; omega)
                          refine GoP.qT rfl rfl rfl rfl (ps_move rfl rfl) ?_
                          first | refine GoP.decideD 121 rfl (fun h143 => ?_) (fun h143 => ?_) | refine GoP.decide 121 rfl (fun h143 => ?_) (fun h143 => ?_)
                          · skip
                            refine GoP.qT rfl rfl rfl rfl (ps_move rfl rfl) ?_
                            first | refine GoP.qT rfl rfl rfl rfl (ps_fieldAddr rfl rfl) ?_ | refine GoP.qT rfl rfl rfl rfl (ps_fieldAddrR rfl rfl) ?_
                            first | refine GoP.qT rfl rfl rfl rfl (ps_load rfl (by first | exact At.p0 | exact At.p1 | exact At.p2 | exact At.p3 | exact At.p4 | exact At.p5 | exact At.p6 | exact At.p7 | exact At.p8 | exact At.p9 | exact At.p10 | exact At.p11 | exact At.p12 | exact At.p13) (by first | exact At.p0 | exact At.p1 | exact At.p2 | exact At.p3 | exact At.p4 | exact At.p5 | exact At.p6 | exact At.p7 | exact At.p8 | exact At.p9 | exact At.p10 | exact At.p11 | exact At.p12 | exact At.p13) ?_ rfl rfl) ?_ | refine GoP.qT rfl rfl rfl rfl (ps_loadR rfl ?_ rfl rfl) ?_
                            · first | exact Nat.zero_lt_one | assumption | omega | exact InI.of (by omega) (by omega) | (simp only [ints_len, bools_len, st1_len, arcs_len, lits_len, List.length_set, List.length_append, List.length_cons, List.length_nil, List.length_replicate]; omega)
                            first | refine GoP.qT rfl rfl rfl rfl (ps_indexAddr0N rfl rfl ?_ rfl) ?_ | refine GoP.qT rfl rfl rfl rfl (ps_indexAddrRN rfl rfl ?_ rfl) ?_ | refine GoP.qT rfl rfl rfl rfl (ps_indexAddr0 rfl rfl ?_ rfl) ?_ | refine GoP.qT rfl rfl rfl rfl (ps_indexAddrN rfl rfl ?_ rfl) ?_ | refine GoP.qT rfl rfl rfl rfl (ps_indexAddrRN rfl rfl ?_ rfl) ?_ | refine GoP.qT rfl rfl rfl rfl (ps_indexAddr rfl rfl ?_ rfl) ?_ | refine GoP.qT rfl rfl rfl rfl (ps_indexAddrR rfl rfl ?_ rfl) ?_
                            · first | exact Nat.zero_lt_one | assumption | omega | exact InI.of (by omega) (by omega) | (simp only [ints_len, bools_len, st1_len, arcs_len, lits_len, List.length_set, List.length_append, List.length_cons, List.length_nil, List.length_replicate]; omega)
                            first | refine GoP.qT rfl rfl rfl rfl (ps_load rfl (by first | exact At.p0 | exact At.p1 | exact At.p2 | exact At.p3 | exact At.p4 | exact At.p5 | exact At.p6 | exact At.p7 | exact At.p8 | exact At.p9 | exact At.p10 | exact At.p11 | exact At.p12 | exact At.p13) (by first | exact At.p0 | exact At.p1 | exact At.p2 | exact At.p3 | exact At.p4 | exact At.p5 | exact At.p6 | exact At.p7 | exact At.p8 | exact At.p9 | exact At.p10 | exact At.p11 | exact At.p12 | exact At.p13) ?_ rfl rfl) ?_ | refine GoP.qT rfl rfl rfl rfl (ps_loadR rfl ?_ rfl rfl) ?_
                            · first | exact Nat.zero_lt_one | assumption | omega | exact InI.of (by omega) (by omega) | (simp only [ints_len, bools_len, st1_len, arcs_len, lits_len, List.length_set, List.length_append, List.length_cons, List.length_nil, List.length_replicate]; omega)
                            refine GoP.qT rfl rfl rfl rfl (ps_pickT rfl rfl rfl) ?_
                            refine GoP.qT rfl rfl rfl rfl (ps_move rfl rfl) ?_
                            first | refine GoP.decideD 128 rfl (fun h151 => ?_) (fun h151 => ?_) | refine GoP.decide 128 rfl (fun h151 => ?_) (fun h151 => ?_)
                            · skip
                              refine GoP.qT rfl rfl rfl rfl (ps_move rfl rfl) ?_
                              first | refine GoP.qT rfl rfl rfl rfl (ps_fieldAddr rfl rfl) ?_ | refine GoP.qT rfl rfl rfl rfl (ps_fieldAddrR rfl rfl) ?_
                              first | refine GoP.qT rfl rfl rfl rfl (ps_load rfl (by first | exact At.p0 | exact At.p1 | exact At.p2 | exact At.p3 | exact At.p4 | exact At.p5 | exact At.p6 | exact At.p7 | exact At.p8 | exact At.p9 | exact At.p10 | exact At.p11 | exact At.p12 | exact At.p13) (by first | exact At.p0 | exact At.p1 | exact At.p2 | exact At.p3 | exact At.p4 | exact At.p5 | exact At.p6 | exact At.p7 | exact At.p8 | exact At.p9 | exact At.p10 | exact At.p11 | exact At.p12 | exact At.p13) ?_ rfl rfl) ?_ | refine GoP.qT rfl rfl rfl rfl (ps_loadR rfl ?_ rfl rfl) ?_
                              · first | exact Nat.zero_lt_one | assumption | omega | exact InI.of (by omega) (by omega) | (simp only [ints_len, bools_len, st1_len, arcs_len, lits_len, List.length_set, List.length_append, List.length_cons, List.length_nil, List.length_replicate]; omega)
                              first | refine GoP.qT rfl rfl rfl rfl (ps_indexAddr0N rfl rfl ?_ rfl) ?_ | refine GoP.qT rfl rfl rfl rfl (ps_indexAddrRN rfl rfl ?_ rfl) ?_ | refine GoP.qT rfl rfl rfl rfl (ps_indexAddr0 rfl rfl ?_ rfl) ?_ | refine GoP.qT rfl rfl rfl rfl (ps_indexAddrN rfl rfl ?_ rfl) ?_ | refine GoP.qT rfl rfl rfl rfl (ps_indexAddrRN rfl rfl ?_ rfl) ?_ | refine GoP.qT rfl rfl rfl rfl (ps_indexAddr rfl rfl ?_ rfl) ?_ | refine GoP.qT rfl rfl rfl rfl (ps_indexAddrR rfl rfl ?_ rfl) ?_
                              · first | exact Nat.zero_lt_one | assumption | omega | exact InI.of (by omega) (by omega) | (simp only [ints_len, bools_len, st1_len, arcs_len, lits_len, List.length_set, List.length_append, List.length_cons, List.length_nil, List.length_replicate]; omega)
                              first | refine GoP.qT rfl rfl rfl rfl (ps_load rfl (by first | exact At.p0 | exact At.p1 | exact At.p2 | exact At.p3 | exact At.p4 | exact At.p5 | exact At.p6 | exact At.p7 | exact At.p8 | exact At.p9 | exact At.p10 | exact At.p11 | exact At.p12 | exact At.p13) (by first | exact At.p0 | exact At.p1 | exact At.p2 | exact At.p3 | exact At.p4 | exact At.p5 | exact At.p6 | exact At.p7 | exact At.p8 | exact At.p9 | exact At.p10 | exact At.p11 | exact At.p12 | exact At.p13) ?_ rfl rfl) ?_ | refine GoP.qT rfl rfl rfl rfl (ps_loadR rfl ?_ rfl rfl) ?_
                              · first | exact Nat.zero_lt_one | assumption | omega | exact InI.of (by omega) (by omega) | (simp only [ints_len, bools_len, st1_len, arcs_len, lits_len, List.length_set, List.length_append, List.length_cons, List.length_nil, List.length_replicate]; omega)
                              refine GoP.qT rfl rfl rfl rfl (ps_move rfl rfl) ?_
                              first | refine GoP.qT rfl rfl rfl rfl (ps_fieldAddr rfl rfl) ?_ | refine GoP.qT rfl rfl rfl rfl (ps_fieldAddrR rfl rfl) ?_
                              first | refine GoP.qT rfl rfl rfl rfl (ps_load rfl (by first | exact At.p0 | exact At.p1 | exact At.p2 | exact At.p3 | exact At.p4 | exact At.p5 | exact At.p6 | exact At.p7 | exact At.p8 | exact At.p9 | exact At.p10 | exact At.p11 | exact At.p12 | exact At.p13) (by first | exact At.p0 | exact At.p1 | exact At.p2 | exact At.p3 | exact At.p4 | exact At.p5 | exact At.p6 | exact At.p7 | exact At.p8 | exact At.p9 | exact At.p10 | exact At.p11 | exact At.p12 | exact At.p13) ?_ rfl rfl) ?_ | refine GoP.qT rfl rfl rfl rfl (ps_loadR rfl ?_ rfl rfl) ?_
                              · first | exact Nat.zero_lt_one | assumption | omega | exact InI.of (by omega) (by omega) | (simp only [ints_len, bools_len, st1_len, arcs_len, lits_len, List.length_set, List.length_append, List.length_cons, List.length_nil, List.length_replicate]; omega)
                              first | refine GoP.qT rfl rfl rfl rfl (ps_indexAddr0N rfl rfl ?_ rfl) ?_ | refine GoP.qT rfl rfl rfl rfl (ps_indexAddrRN rfl rfl ?_ rfl) ?_ | refine GoP.qT rfl rfl rfl rfl (ps_indexAddr0 rfl rfl ?_ rfl) ?_ | refine GoP.qT rfl rfl rfl rfl (ps_indexAddrN rfl rfl ?_ rfl) ?_ | refine GoP.qT rfl rfl rfl rfl (ps_indexAddrRN rfl rfl ?_ rfl) ?_ | refine GoP.qT rfl rfl rfl rfl (ps_indexAddr rfl rfl ?_ rfl) ?_ | refine GoP.qT rfl rfl rfl rfl (ps_indexAddrR rfl rfl ?_ rfl) ?_
                              · first | exact Nat.zero_lt_one | assumption | omega | exact InI.of (by omega) (by omega) | (simp only [ints_len, bools_len, st1_len, arcs_len, lits_len, List.length_set, List.length_append, List.length_cons, List.length_nil, List.length_replicate]; omega)
                              first | refine GoP.qT rfl rfl rfl rfl (ps_load rfl (by first | exact At.p0 | exact At.p1 | exact At.p2 | exact At.p3 | exact At.p4 | exact At.p5 | exact At.p6 | exact At.p7 | exact At.p8 | exact At.p9 | exact At.p10 | exact At.p11 | exact At.p12 | exact At.p13) (by first | exact At.p0 | exact At.p1 | exact At.p2 | exact At.p3 | exact At.p4 | exact At.p5 | exact At.p6 | exact At.p7 | exact At.p8 | exact At.p9 | exact At.p10 | exact At.p11 | exact At.p12 | exact At.p13) ?_ rfl rfl) ?_ | refine GoP.qT rfl rfl rfl rfl (ps_loadR rfl ?_ rfl rfl) ?_
                              · first | exact Nat.zero_lt_one | assumption | omega | exact InI.of (by omega) (by omega) | (simp only [ints_len, bools_len, st1_len, arcs_len, lits_len, List.length_set, List.length_append, List.length_cons, List.length_nil, List.length_replicate]; omega)
                              first | refine GoP.qT rfl rfl rfl rfl (ps_fieldAddr rfl rfl) ?_ | refine GoP.qT rfl rfl rfl rfl (ps_fieldAddrR rfl rfl) ?_
                              first | refine GoP.qT rfl rfl rfl rfl (ps_load rfl (by first | exact At.p0 | exact At.p1 | exact At.p2 | exact At.p3 | exact At.p4 | exact At.p5 | exact At.p6 | exact At.p7 | exact At.p8 | exact At.p9 | exact At.p10 | exact At.p11 | exact At.p12 | exact At.p13) (by first | exact At.p0 | exact At.p1 | exact At.p2 | exact At.p3 | exact At.p4 | exact At.p5 | exact At.p6 | exact At.p7 | exact At.p8 | exact At.p9 | exact At.p10 | exact At.p11 | exact At.p12 | exact At.p13) ?_ rfl rfl) ?_ | refine GoP.qT rfl rfl rfl rfl (ps_loadR rfl ?_ rfl rfl) ?_
                              · first | exact Nat.zero_lt_one | assumption | omega | exact InI.of (by omega) (by omega) | (simp only [ints_len, bools_len, st1_len, arcs_len, lits_len, List.length_set, List.length_append, List.length_cons, List.length_nil, List.length_replicate]; omega)
                              refine GoP.qT rfl rfl rfl rfl (ps_add rfl rfl rfl ?_) ?_
                              · first | exact Nat.zero_lt_one | assumption | omega | exact InI.of (by omega) (by omega) | (simp only [ints_len, bools_len, st1_len, arcs_len, lits_len, List.length_set, List.length_append, List.length_cons, List.length_nil, List.length_replicate]; omega)
                              first | refine GoP.qT rfl rfl rfl rfl (ps_eql rfl rfl rfl) ?_ | refine GoP.qT rfl rfl rfl rfl (ps_eqlB rfl rfl rfl) ?_ | refine GoP.qT rfl rfl rfl rfl (ps_eqlA rfl rfl rfl rfl) ?_
                              refine GoP.qT rfl rfl rfl rfl (ps_pickT rfl rfl rfl) ?_
                              refine GoP.qN rfl (ps_pickF rfl rfl rfl) ?_
                              first | refine GoP.qN rfl (ps_indexAddr0N rfl rfl ?_ rfl) ?_ | refine GoP.qN rfl (ps_indexAddrRN rfl rfl ?_ rfl) ?_ | refine GoP.qN rfl (ps_indexAddr0 rfl rfl ?_ rfl) ?_ | refine GoP.qN rfl (ps_indexAddrN rfl rfl ?_ rfl) ?_ | refine GoP.qN rfl (ps_indexAddrRN rfl rfl ?_ rfl) ?_ | refine GoP.qN rfl (ps_indexAddr rfl rfl ?_ rfl) ?_ | refine GoP.qN rfl (ps_indexAddrR rfl rfl ?_ rfl) ?_
                              · first | exact Nat.zero_lt_one | assumption | omega | exact InI.of (by omega) (by omega) | (simp only [ints_len, bools_len, st1_len, arcs_len, lits_len, List.length_set, List.length_append, List.length_cons, List.length_nil, List.length_replicate]; omega)
                              refine GoP.one1 rfl trivial (ef_store rfl rfl rfl (by first | exact At.p0 | exact At.p1 | exact At.p2 | exact At.p3 | exact At.p4 | exact At.p5 | exact At.p6 | exact At.p7 | exact At.p8 | exact At.p9 | exact At.p10 | exact At.p11 | exact At.p12 | exact At.p13) (by first | exact upd_ints | exact upd_bools | exact upd_st1) ?_ rfl) (by exact (Take.cons _ _ _ _ _ (by first | exact Rem.p0 | exact Rem.p1 | exact Rem.p2 | exact Rem.p3 | exact Rem.p4 | exact Rem.p5 | exact Rem.p6 | exact Rem.p7 | exact Rem.p8 | exact Rem.p9 | exact Rem.p10 | exact Rem.p11 | exact Rem.p12 | exact Rem.p13) (Take.cons _ _ _ _ _ (by first | exact Rem.p0 | exact Rem.p1 | exact Rem.p2 | exact Rem.p3 | exact Rem.p4 | exact Rem.p5 | exact Rem.p6 | exact Rem.p7 | exact Rem.p8 | exact Rem.p9 | exact Rem.p10 | exact Rem.p11 | exact Rem.p12 | exact Rem.p13) (Take.cons _ _ _ _ _ (by first | exact Rem.p0 | exact Rem.p1 | exact Rem.p2 | exact Rem.p3 | exact Rem.p4 | exact Rem.p5 | exact Rem.p6 | exact Rem.p7 | exact Rem.p8 | exact Rem.p9 | exact Rem.p10 | exact Rem.p11 | exact Rem.p12 | exact Rem.p13) (Take.cons _ _ _ _ _ (by first | exact Rem.p0 | exact Rem.p1 | exact Rem.p2 | exact Rem.p3 | exact Rem.p4 | exact Rem.p5 | exact Rem.p6 | exact Rem.p7 | exact Rem.p8 | exact Rem.p9 | exact Rem.p10 | exact Rem.p11 | exact Rem.p12 | exact Rem.p13) (Take.nil _)))))) ?_
                              · first | exact Nat.zero_lt_one | assumption | omega | exact InI.of (by omega) (by omega) | (simp only [ints_len, bools_len, st1_len, arcs_len, lits_len, List.length_set, List.length_append, List.length_cons, List.length_nil, List.length_replicate]; omega)
                              refine GoP.done ?_
                              refine GoK.blk ?_
                              refine GoK.code ?_
                              refine GoC.region ?_
                              refine GoO.pure (ps_add rfl rfl rfl ?_) ?_
                              · first | exact Nat.zero_lt_one | assumption | omega | exact InI.of (by omega) (by omega) | (simp only [ints_len, bools_len, st1_len, arcs_len, lits_len, List.length_set, List.length_append, List.length_cons, List.length_nil, List.length_replicate]; omega)
                              refine GoO.pure (ps_move rfl rfl) ?_
                              refine GoO.nil ?_
                              refine GoK.againE (g.as.length - (k + 1)) ((k + 1, _)) ?_ ?_ (by repeat (first | exact EnvLe.nil | refine EnvLe.cons rfl ?_)) (by repeat (first | exact Tk.all _ | exact Tk.nil | refine Tk.cons (by first | exact Rem.p0 | exact Rem.p1 | exact Rem.p2 | exact Rem.p3 | exact Rem.p4 | exact Rem.p5 | exact Rem.p6 | exact Rem.p7 | exact Rem.p8 | exact Rem.p9 | exact Rem.p10 | exact Rem.p11 | exact Rem.p12 | exact Rem.p13) ?_))
                              · omega
                              · exact ⟨rfl, hI.step hlt (by rintro (h | ⟨h, h2, h3⟩) <;> first | rfl | exact decide_eq_true (by omega) | simp_all) (by omega)⟩
                            · skip
                              refine GoP.qF rfl rfl rfl rfl rfl ?_
                              refine GoP.qF rfl rfl rfl rfl rfl ?_
                              refine GoP.qF rfl rfl rfl rfl rfl ?_
                              refine GoP.qF rfl rfl rfl rfl rfl ?_
                              refine GoP.qF rfl rfl rfl rfl rfl ?_
                              refine GoP.qF rfl rfl rfl rfl rfl ?_
                              refine GoP.qF rfl rfl rfl rfl rfl ?_
                              refine GoP.qF rfl rfl rfl rfl rfl ?_
                              refine GoP.qF rfl rfl rfl rfl rfl ?_
                              refine GoP.qF rfl rfl rfl rfl rfl ?_
                              refine GoP.qF rfl rfl rfl rfl rfl ?_
                              refine GoP.qF rfl rfl rfl rfl rfl ?_
                              refine GoP.qF rfl rfl rfl rfl rfl ?_
                              refine GoP.qF rfl rfl rfl rfl rfl ?_
                              refine GoP.qT rfl rfl rfl rfl (ps_pickF rfl rfl rfl) ?_
                              refine GoP.qN rfl (ps_pickF rfl rfl rfl) ?_
                              first | refine GoP.qN rfl (ps_indexAddr0N rfl rfl ?_ rfl) ?_ | refine GoP.qN rfl (ps_indexAddrRN rfl rfl ?_ rfl) ?_ | refine GoP.qN rfl (ps_indexAddr0 rfl rfl ?_ rfl) ?_ | refine GoP.qN rfl (ps_indexAddrN rfl rfl ?_ rfl) ?_ | refine GoP.qN rfl (ps_indexAddrRN rfl rfl ?_ rfl) ?_ | refine GoP.qN rfl (ps_indexAddr rfl rfl ?_ rfl) ?_ | refine GoP.qN rfl (ps_indexAddrR rfl rfl ?_ rfl) ?_
                              · first | exact Nat.zero_lt_one | assumption | omega | exact InI.of (by omega) (by omega) | (simp only [ints_len, bools_len, st1_len, arcs_len, lits_len, List.length_set, List.length_append, List.length_cons, List.length_nil, List.length_replicate]; omega)
                              refine GoP.one1 rfl trivial (ef_store rfl rfl rfl (by first | exact At.p0 | exact At.p1 | exact At.p2 | exact At.p3 | exact At.p4 | exact At.p5 | exact At.p6 | exact At.p7 | exact At.p8 | exact At.p9 | exact At.p10 | exact At.p11 | exact At.p12 | exact At.p13) (by first | exact upd_ints | exact upd_bools | exact upd_st1) ?_ rfl) (by exact (Take.cons _ _ _ _ _ (by first | exact Rem.p0 | exact Rem.p1 | exact Rem.p2 | exact Rem.p3 | exact Rem.p4 | exact Rem.p5 | exact Rem.p6 | exact Rem.p7 | exact Rem.p8 | exact Rem.p9 | exact Rem.p10 | exact Rem.p11 | exact Rem.p12 | exact Rem.p13) (Take.cons _ _ _ _ _ (by first | exact Rem.p0 | exact Rem.p1 | exact Rem.p2 | exact Rem.p3 | exact Rem.p4 | exact Rem.p5 | exact Rem.p6 | exact Rem.p7 | exact Rem.p8 | exact Rem.p9 | exact Rem.p10 | exact Rem.p11 | exact Rem.p12 | exact Rem.p13) (Take.cons _ _ _ _ _ (by first | exact Rem.p0 | exact Rem.p1 | exact Rem.p2 | exact Rem.p3 | exact Rem.p4 | exact Rem.p5 | exact Rem.p6 | exact Rem.p7 | exact Rem.p8 | exact Rem.p9 | exact Rem.p10 | exact Rem.p11 | exact Rem.p12 | exact Rem.p13) (Take.cons _ _ _ _ _ (by first | exact Rem.p0 | exact Rem.p1 | exact Rem.p2 | exact Rem.p3 | exact Rem.p4 | exact Rem.p5 | exact Rem.p6 | exact Rem.p7 | exact Rem.p8 | exact Rem.p9 | exact Rem.p10 | exact Rem.p11 | exact Rem.p12 | exact Rem.p13) (Take.nil _)))))) ?_
                              · first | exact Nat.zero_lt_one | assumption | omega | exact InI.of (by omega) (by omega) | (simp only [ints_len, bools_len, st1_len, arcs_len, lits_len, List.length_set, List.length_append, List.length_cons, List.length_nil, List.length_replicate]; omega)
                              refine GoP.done ?_
                              refine GoK.blk ?_
                              refine GoK.code ?_
                              refine GoC.region ?_
                              refine GoO.pure (ps_add rfl rfl rfl ?_) ?_
                              · first | exact Nat.zero_lt_one | assumption | omega | exact InI.of (by omega) (by omega) | (simp only [ints_len, bools_len, st1_len, arcs_len, lits_len, List.length_set, List.length_append, List.length_cons, List.length_nil, List.length_replicate]; omega)
                              refine GoO.pure (ps_move rfl rfl) ?_
                              refine GoO.nil ?_
                              refine GoK.againE (g.as.length - (k + 1)) ((k + 1, _)) ?_ ?_ (by repeat (first | exact EnvLe.nil | refine EnvLe.cons rfl ?_)) (by repeat (first | exact Tk.all _ | exact Tk.nil | refine Tk.cons (by first | exact Rem.p0 | exact Rem.p1 | exact Rem.p2 | exact Rem.p3 | exact Rem.p4 | exact Rem.p5 | exact Rem.p6 | exact Rem.p7 | exact Rem.p8 | exact Rem.p9 | exact Rem.p10 | exact Rem.p11 | exact Rem.p12 | exact Rem.p13) ?_))
                              · omega
                              · exact ⟨rfl, hI.step hlt (by rintro (h | ⟨h, h2, h3⟩) <;> first | rfl | exact decide_eq_true (by omega) | simp_all) (by omega)⟩
                          · skip
                            refine GoP.qF rfl rfl rfl rfl rfl ?_
                            refine GoP.qF rfl rfl rfl rfl rfl ?_
                            refine GoP.qF rfl rfl rfl rfl rfl ?_
                            refine GoP.qF rfl rfl rfl rfl rfl ?_
                            refine GoP.qF rfl rfl rfl rfl rfl ?_
                            refine GoP.qT rfl rfl rfl rfl (ps_pickF rfl rfl rfl) ?_
                            refine GoP.qT rfl rfl rfl rfl (ps_move rfl rfl) ?_
                            refine GoP.qF rfl rfl rfl rfl rfl ?_
                            refine GoP.qF rfl rfl rfl rfl rfl ?_
                            refine GoP.qF rfl rfl rfl rfl rfl ?_
                            refine GoP.qF rfl rfl rfl rfl rfl ?_
                            refine GoP.qF rfl rfl rfl rfl rfl ?_
                            refine GoP.qF rfl rfl rfl rfl rfl ?_
                            refine GoP.qF rfl rfl rfl rfl rfl ?_
                            refine GoP.qF rfl rfl rfl rfl rfl ?_
                            refine GoP.qF rfl rfl rfl rfl rfl ?_
                            refine GoP.qF rfl rfl rfl rfl rfl ?_
                            refine GoP.qF rfl rfl rfl rfl rfl ?_
                            refine GoP.qF rfl rfl rfl rfl rfl ?_
                            refine GoP.qF rfl rfl rfl rfl rfl ?_
                            refine GoP.qF rfl rfl rfl rfl rfl ?_
                            refine GoP.qT rfl rfl rfl rfl (ps_pickF rfl rfl rfl) ?_
                            refine GoP.qN rfl (ps_pickF rfl rfl rfl) ?_
                            first | refine GoP.qN rfl (ps_indexAddr0N rfl rfl ?_ rfl) ?_ | refine GoP.qN rfl (ps_indexAddrRN rfl rfl ?_ rfl) ?_ | refine GoP.qN rfl (ps_indexAddr0 rfl rfl ?_ rfl) ?_ | refine GoP.qN rfl (ps_indexAddrN rfl rfl ?_ rfl) ?_ | refine GoP.qN rfl (ps_indexAddrRN rfl rfl ?_ rfl) ?_ | refine GoP.qN rfl (ps_indexAddr rfl rfl ?_ rfl) ?_ | refine GoP.qN rfl (ps_indexAddrR rfl rfl ?_ rfl) ?_
                            · first | exact Nat.zero_lt_one | assumption | omega | exact InI.of (by omega) (by omega) | (simp only [ints_len, bools_len, st1_len, arcs_len, lits_len, List.length_set, List.length_append, List.length_cons, List.length_nil, List.length_replicate]; omega)
                            refine GoP.one1 rfl trivial (ef_store rfl rfl rfl (by first | exact At.p0 | exact At.p1 | exact At.p2 | exact At.p3 | exact At.p4 | exact At.p5 | exact At.p6 | exact At.p7 | exact At.p8 | exact At.p9 | exact At.p10 | exact At.p11 | exact At.p12 | exact At.p13) (by first | exact upd_ints | exact upd_bools | exact upd_st1) ?_ rfl) (by exact (Take.cons _ _ _ _ _ (by first | exact Rem.p0 | exact Rem.p1 | exact Rem.p2 | exact Rem.p3 | exact Rem.p4 | exact Rem.p5 | exact Rem.p6 | exact Rem.p7 | exact Rem.p8 | exact Rem.p9 | exact Rem.p10 | exact Rem.p11 | exact Rem.p12 | exact Rem.p13) (Take.cons _ _ _ _ _ (by first | exact Rem.p0 | exact Rem.p1 | exact Rem.p2 | exact Rem.p3 | exact Rem.p4 | exact Rem.p5 | exact Rem.p6 | exact Rem.p7 | exact Rem.p8 | exact Rem.p9 | exact Rem.p10 | exact Rem.p11 | exact Rem.p12 | exact Rem.p13) (Take.cons _ _ _ _ _ (by first | exact Rem.p0 | exact Rem.p1 | exact Rem.p2 | exact Rem.p3 | exact Rem.p4 | exact Rem.p5 | exact Rem.p6 | exact Rem.p7 | exact Rem.p8 | exact Rem.p9 | exact Rem.p10 | exact Rem.p11 | exact Rem.p12 | exact Rem.p13) (Take.cons _ _ _ _ _ (by first | exact Rem.p0 | exact Rem.p1 | exact Rem.p2 | exact Rem.p3 | exact Rem.p4 | exact Rem.p5 | exact Rem.p6 | exact Rem.p7 | exact Rem.p8 | exact Rem.p9 | exact Rem.p10 | exact Rem.p11 | exact Rem.p12 | exact Rem.p13) (Take.nil _)))))) ?_
                            · first | exact Nat.zero_lt_one | assumption | omega | exact InI.of (by omega) (by omega) | (simp only [ints_len, bools_len, st1_len, arcs_len, lits_len, List.length_set, List.length_append, List.length_cons, List.length_nil, List.length_replicate]; omega)
                            refine GoP.done ?_
                            refine GoK.blk ?_
                            refine GoK.code ?_
                            refine GoC.region ?_
                            refine GoO.pure (ps_add rfl rfl rfl ?_) ?_
                            · first | exact Nat.zero_lt_one | assumption | omega | exact InI.of (by omega) (by omega) | (simp only [ints_len, bools_len, st1_len, arcs_len, lits_len, List.length_set, List.length_append, List.length_cons, List.length_nil, List.length_replicate]; omega)
                            refine GoO.pure (ps_move rfl rfl) ?_
                            refine GoO.nil ?_
                            refine GoK.againE (g.as.length - (k + 1)) ((k + 1, _)) ?_ ?_ (by repeat (first | exact EnvLe.nil | refine EnvLe.cons rfl ?_)) (by repeat (first | exact Tk.all _ | exact Tk.nil | refine Tk.cons (by first | exact Rem.p0 | exact Rem.p1 | exact Rem.p2 | exact Rem.p3 | exact Rem.p4 | exact Rem.p5 | exact Rem.p6 | exact Rem.p7 | exact Rem.p8 | exact Rem.p9 | exact Rem.p10 | exact Rem.p11 | exact Rem.p12 | exact Rem.p13) ?_))
                            · omega
                            · exact ⟨rfl, hI.step hlt (by rintro (h | ⟨h, h2, h3⟩) <;> first | rfl | exact decide_eq_true (by omega) | simp_all) (by omega)⟩
                  · skip
                    refine GoP.qF rfl rfl rfl rfl rfl ?_
                    refine GoP.qF rfl rfl rfl rfl rfl ?_
                    refine GoP.qF rfl rfl rfl rfl rfl ?_
                    refine GoP.qF rfl rfl rfl rfl rfl ?_
                    refine GoP.qF rfl rfl rfl rfl rfl ?_
                    refine GoP.qF rfl rfl rfl rfl rfl ?_
                    refine GoP.qF rfl rfl rfl rfl rfl ?_
                    refine GoP.qU rfl rfl rfl rfl rfl ?_
                    refine GoP.qU rfl rfl rfl rfl rfl ?_
                    refine GoP.qU rfl rfl rfl rfl rfl ?_
                    refine GoP.qU rfl rfl rfl rfl rfl ?_
                    refine GoP.qU rfl rfl rfl rfl rfl ?_
                    refine GoP.qU rfl rfl rfl rfl rfl ?_
                    refine GoP.qU rfl rfl rfl rfl rfl ?_
                    refine GoP.qU rfl rfl rfl rfl rfl ?_
                    refine GoP.qU rfl rfl rfl rfl rfl ?_
                    refine GoP.qU rfl rfl rfl rfl rfl ?_
                    refine GoP.qU rfl rfl rfl rfl rfl ?_
                    refine GoP.qU rfl rfl rfl rfl rfl ?_
                    refine GoP.qU rfl rfl rfl rfl rfl ?_
                    refine GoP.qU rfl rfl rfl rfl rfl ?_
                    refine GoP.qF rfl rfl rfl rfl rfl ?_
                    refine GoP.qN rfl (ps_pickF rfl rfl rfl) ?_
                    refine GoP.done ?_
                    refine GoK.code ?_
                    refine GoC.condF rfl ?_
                    refine GoC.skip ?_
                    refine GoK.code ?_
                    refine GoC.drawP (.q 0 (.q 1 (.q 2 (.q 3 (.q 4 (.q 5 (.q 6 (.one 7 (.q 8 (.q 9 (.q 10 (.q 11 (.q 12 (.q 13 (.q 14 (.q 15 (.q 16 (.q 17 (.q 18 (.q 19 (.q 20 (.q 21 (.q 22 (.q 23 (.q 24 (.q 25 (.q 26 (.q 27 (.q 28 (.q 29 (.q 30 (.q 31 (.q 32 (.q 33 (.q 34 (.q 35 (.q 36 (.q 37 (.q 38 (.one 39 (.done))))))))))))))))))))))))))))))))))))))))) [(10, _, _, _), (6, _, _, _), (5, _, _, _)] follows (by kernel_rfl) (by exact (Take.cons _ _ _ _ _ (by first | exact Rem.p0 | exact Rem.p1 | exact Rem.p2 | exact Rem.p3 | exact Rem.p4 | exact Rem.p5 | exact Rem.p6 | exact Rem.p7 | exact Rem.p8 | exact Rem.p9 | exact Rem.p10 | exact Rem.p11 | exact Rem.p12 | exact Rem.p13) (Take.cons _ _ _ _ _ (by first | exact Rem.p0 | exact Rem.p1 | exact Rem.p2 | exact Rem.p3 | exact Rem.p4 | exact Rem.p5 | exact Rem.p6 | exact Rem.p7 | exact Rem.p8 | exact Rem.p9 | exact Rem.p10 | exact Rem.p11 | exact Rem.p12 | exact Rem.p13) (Take.cons _ _ _ _ _ (by first | exact Rem.p0 | exact Rem.p1 | exact Rem.p2 | exact Rem.p3 | exact Rem.p4 | exact Rem.p5 | exact Rem.p6 | exact Rem.p7 | exact Rem.p8 | exact Rem.p9 | exact Rem.p10 | exact Rem.p11 | exact Rem.p12 | exact Rem.p13) (Take.nil _))))) ?_
                    refine GoP.qN rfl (ps_move rfl rfl) ?_
                    first | refine GoP.qN rfl (ps_fieldAddr rfl rfl) ?_ | refine GoP.qN rfl (ps_fieldAddrR rfl rfl) ?_
                    first | refine GoP.qN rfl (ps_load rfl (by first | exact At.p0 | exact At.p1 | exact At.p2 | exact At.p3 | exact At.p4 | exact At.p5 | exact At.p6 | exact At.p7 | exact At.p8 | exact At.p9 | exact At.p10 | exact At.p11 | exact At.p12 | exact At.p13) (by first | exact At.p0 | exact At.p1 | exact At.p2 | exact At.p3 | exact At.p4 | exact At.p5 | exact At.p6 | exact At.p7 | exact At.p8 | exact At.p9 | exact At.p10 | exact At.p11 | exact At.p12 | exact At.p13) ?_ rfl rfl) ?_ | refine GoP.qN rfl (ps_loadR rfl ?_ rfl rfl) ?_
                    · first | exact Nat.zero_lt_one | assumption | omega | exact InI.of (by omega) (by omega) | (simp only [ints_len, bools_len, st1_len, arcs_len, lits_len, List.length_set, List.length_append, List.length_cons, List.length_nil, List.length_replicate]; omega)
                    refine GoP.qN rfl (ps_move rfl rfl) ?_
                    first | refine GoP.qN rfl (ps_fieldAddr rfl rfl) ?_ | refine GoP.qN rfl (ps_fieldAddrR rfl rfl) ?_
                    first | refine GoP.qN rfl (ps_load rfl (by first | exact At.p0 | exact At.p1 | exact At.p2 | exact At.p3 | exact At.p4 | exact At.p5 | exact At.p6 | exact At.p7 | exact At.p8 | exact At.p9 | exact At.p10 | exact At.p11 | exact At.p12 | exact At.p13) (by first | exact At.p0 | exact At.p1 | exact At.p2 | exact At.p3 | exact At.p4 | exact At.p5 | exact At.p6 | exact At.p7 | exact At.p8 | exact At.p9 | exact At.p10 | exact At.p11 | exact At.p12 | exact At.p13) ?_ rfl rfl) ?_ | refine GoP.qN rfl (ps_loadR rfl ?_ rfl rfl) ?_
                    · first | exact Nat.zero_lt_one | assumption | omega | exact InI.of (by omega) (by omega) | (simp only [ints_len, bools_len, st1_len, arcs_len, lits_len, List.length_set, List.length_append, List.length_cons, List.length_nil, List.length_replicate]; omega)
                    first | refine GoP.qN rfl (ps_indexAddr0N rfl rfl ?_ rfl) ?_ | refine GoP.qN rfl (ps_indexAddrRN rfl rfl ?_ rfl) ?_ | refine GoP.qN rfl (ps_indexAddr0 rfl rfl ?_ rfl) ?_ | refine GoP.qN rfl (ps_indexAddrN rfl rfl ?_ rfl) ?_ | refine GoP.qN rfl (ps_indexAddrRN rfl rfl ?_ rfl) ?_ | refine GoP.qN rfl (ps_indexAddr rfl rfl ?_ rfl) ?_ | refine GoP.qN rfl (ps_indexAddrR rfl rfl ?_ rfl) ?_
                    · first | exact Nat.zero_lt_one | assumption | omega | exact InI.of (by omega) (by omega) | (simp only [ints_len, bools_len, st1_len, arcs_len, lits_len, List.length_set, List.length_append, List.length_cons, List.length_nil, List.length_replicate]; omega)
                    first | refine GoP.oneN rfl (ps_load rfl (by first | exact At.p0 | exact At.p1 | exact At.p2 | exact At.p3 | exact At.p4 | exact At.p5 | exact At.p6 | exact At.p7 | exact At.p8 | exact At.p9 | exact At.p10 | exact At.p11 | exact At.p12 | exact At.p13) (by first | exact At.p0 | exact At.p1 | exact At.p2 | exact At.p3 | exact At.p4 | exact At.p5 | exact At.p6 | exact At.p7 | exact At.p8 | exact At.p9 | exact At.p10 | exact At.p11 | exact At.p12 | exact At.p13) ?_ rfl rfl) (by exact (Take.cons _ _ _ _ _ (by first | exact Rem.p0 | exact Rem.p1 | exact Rem.p2 | exact Rem.p3 | exact Rem.p4 | exact Rem.p5 | exact Rem.p6 | exact Rem.p7 | exact Rem.p8 | exact Rem.p9 | exact Rem.p10 | exact Rem.p11 | exact Rem.p12 | exact Rem.p13) (Take.cons _ _ _ _ _ (by first | exact Rem.p0 | exact Rem.p1 | exact Rem.p2 | exact Rem.p3 | exact Rem.p4 | exact Rem.p5 | exact Rem.p6 | exact Rem.p7 | exact Rem.p8 | exact Rem.p9 | exact Rem.p10 | exact Rem.p11 | exact Rem.p12 | exact Rem.p13) (Take.cons _ _ _ _ _ (by first | exact Rem.p0 | exact Rem.p1 | exact Rem.p2 | exact Rem.p3 | exact Rem.p4 | exact Rem.p5 | exact Rem.p6 | exact Rem.p7 | exact Rem.p8 | exact Rem.p9 | exact Rem.p10 | exact Rem.p11 | exact Rem.p12 | exact Rem.p13) (Take.nil _))))) ?_ | refine GoP.oneN rfl (ps_loadR rfl ?_ rfl rfl) (by exact (Take.cons _ _ _ _ _ (by first | exact Rem.p0 | exact Rem.p1 | exact Rem.p2 | exact Rem.p3 | exact Rem.p4 | exact Rem.p5 | exact Rem.p6 | exact Rem.p7 | exact Rem.p8 | exact Rem.p9 | exact Rem.p10 | exact Rem.p11 | exact Rem.p12 | exact Rem.p13) (Take.cons _ _ _ _ _ (by first | exact Rem.p0 | exact Rem.p1 | exact Rem.p2 | exact Rem.p3 | exact Rem.p4 | exact Rem.p5 | exact Rem.p6 | exact Rem.p7 | exact Rem.p8 | exact Rem.p9 | exact Rem.p10 | exact Rem.p11 | exact Rem.p12 | exact Rem.p13) (Take.cons _ _ _ _ _ (by first | exact Rem.p0 | exact Rem.p1 | exact Rem.p2 | exact Rem.p3 | exact Rem.p4 | exact Rem.p5 | exact Rem.p6 | exact Rem.p7 | exact Rem.p8 | exact Rem.p9 | exact Rem.p10 | exact Rem.p11 | exact Rem.p12 | exact Rem.p13) (Take.nil _))))) ?_
                    · first | exact Nat.zero_lt_one | assumption | omega | exact InI.of (by omega) (by omega) | (simp only [ints_len, bools_len, st1_len, arcs_len, lits_len, List.length_set, List.length_append, List.length_cons, List.length_nil, List.length_replicate]; omega)
                    refine GoP.qN rfl (ps_move rfl rfl) ?_
                    first | refine GoP.decideD 115 rfl (fun h196 => ?_) (fun h196 => ?_) | refine GoP.decide 115 rfl (fun h196 => ?_) (fun h196 => ?_)
                    · skip
                      refine GoP.qF rfl rfl rfl rfl rfl ?_
                      refine GoP.qF rfl rfl rfl rfl rfl ?_
                      refine GoP.qF rfl rfl rfl rfl rfl ?_
                      refine GoP.qF rfl rfl rfl rfl rfl ?_
                      refine GoP.qF rfl rfl rfl rfl rfl ?_
                      refine GoP.qF rfl rfl rfl rfl rfl ?_
                      refine GoP.qU rfl rfl rfl rfl rfl ?_
                      refine GoP.qU rfl rfl rfl rfl rfl ?_
                      refine GoP.qU rfl rfl rfl rfl rfl ?_
                      refine GoP.qU rfl rfl rfl rfl rfl ?_
                      refine GoP.qU rfl rfl rfl rfl rfl ?_
                      refine GoP.qF rfl rfl rfl rfl rfl ?_
                      refine GoP.qF rfl rfl rfl rfl rfl ?_
                      refine GoP.qU rfl rfl rfl rfl rfl ?_
                      refine GoP.qU rfl rfl rfl rfl rfl ?_
                      refine GoP.qU rfl rfl rfl rfl rfl ?_
                      refine GoP.qU rfl rfl rfl rfl rfl ?_
                      refine GoP.qU rfl rfl rfl rfl rfl ?_
                      refine GoP.qU rfl rfl rfl rfl rfl ?_
                      refine GoP.qU rfl rfl rfl rfl rfl ?_
                      refine GoP.qU rfl rfl rfl rfl rfl ?_
                      refine GoP.qU rfl rfl rfl rfl rfl ?_
                      refine GoP.qU rfl rfl rfl rfl rfl ?_
                      refine GoP.qU rfl rfl rfl rfl rfl ?_
                      refine GoP.qU rfl rfl rfl rfl rfl ?_
                      refine GoP.qU rfl rfl rfl rfl rfl ?_
                      refine GoP.qU rfl rfl rfl rfl rfl ?_
                      refine GoP.qF rfl rfl rfl rfl rfl ?_
                      refine GoP.qN rfl (ps_pickT rfl rfl rfl) ?_
                      first | refine GoP.qN rfl (ps_indexAddr0N rfl rfl ?_ rfl) ?_ | refine GoP.qN rfl (ps_indexAddrRN rfl rfl ?_ rfl) ?_ | refine GoP.qN rfl (ps_indexAddr0 rfl rfl ?_ rfl) ?_ | refine GoP.qN rfl (ps_indexAddrN rfl rfl ?_ rfl) ?_ | refine GoP.qN rfl (ps_indexAddrRN rfl rfl ?_ rfl) ?_ | refine GoP.qN rfl (ps_indexAddr rfl rfl ?_ rfl) ?_ | refine GoP.qN rfl (ps_indexAddrR rfl rfl ?_ rfl) ?_
                      · first | exact Nat.zero_lt_one | assumption | omega | exact InI.of (by omega) (by omega) | (simp only [ints_len, bools_len, st1_len, arcs_len, lits_len, List.length_set, List.length_append, List.length_cons, List.length_nil, List.length_replicate]; omega)
                      refine GoP.one1 rfl trivial (ef_store rfl rfl rfl (by first | exact At.p0 | exact At.p1 | exact At.p2 | exact At.p3 | exact At.p4 | exact At.p5 | exact At.p6 | exact At.p7 | exact At.p8 | exact At.p9 | exact At.p10 | exact At.p11 | exact At.p12 | exact At.p13) (by first | exact upd_ints | exact upd_bools | exact upd_st1) ?_ rfl) (by exact (Take.cons _ _ _ _ _ (by first | exact Rem.p0 | exact Rem.p1 | exact Rem.p2 | exact Rem.p3 | exact Rem.p4 | exact Rem.p5 | exact Rem.p6 | exact Rem.p7 | exact Rem.p8 | exact Rem.p9 | exact Rem.p10 | exact Rem.p11 | exact Rem.p12 | exact Rem.p13) (Take.cons _ _ _ _ _ (by first | exact Rem.p0 | exact Rem.p1 | exact Rem.p2 | exact Rem.p3 | exact Rem.p4 | exact Rem.p5 | exact Rem.p6 | exact Rem.p7 | exact Rem.p8 | exact Rem.p9 | exact Rem.p10 | exact Rem.p11 | exact Rem.p12 | exact Rem.p13) (Take.cons _ _ _ _ _ (by first | exact Rem.p0 | exact Rem.p1 | exact Rem.p2 | exact Rem.p3 | exact Rem.p4 | exact Rem.p5 | exact Rem.p6 | exact Rem.p7 | exact Rem.p8 | exact Rem.p9 | exact Rem.p10 | exact Rem.p11 | exact Rem.p12 | exact Rem.p13) (Take.cons _ _ _ _ _ (by first | exact Rem.p0 | exact Rem.p1 | exact Rem.p2 | exact Rem.p3 | exact Rem.p4 | exact Rem.p5 | exact Rem.p6 | exact Rem.p7 | exact Rem.p8 | exact Rem.p9 | exact Rem.p10 | exact Rem.p11 | exact Rem.p12 | exact Rem.p13) (Take.nil _)))))) ?_
                      · first | exact Nat.zero_lt_one | assumption | omega | exact InI.of (by omega) (by omega) | (simp only [ints_len, bools_len, st1_len, arcs_len, lits_len, List.length_set, List.length_append, List.length_cons, List.length_nil, List.length_replicate]; omega)
                      refine GoP.done ?_
                      refine GoK.blk ?_
                      refine GoK.code ?_
                      refine GoC.region ?_
                      refine GoO.pure (ps_add rfl rfl rfl ?_) ?_
                      · first | exact Nat.zero_lt_one | assumption | omega | exact InI.of (by omega) (by omega) | (simp only [ints_len, bools_len, st1_len, arcs_len, lits_len, List.length_set, List.length_append, List.length_cons, List.length_nil, List.length_replicate]; omega)
                      refine GoO.pure (ps_move rfl rfl) ?_
                      refine GoO.nil ?_
                      refine GoK.againE (g.as.length - (k + 1)) ((k + 1, _)) ?_ ?_ (by repeat (first | exact EnvLe.nil | refine EnvLe.cons rfl ?_)) (by repeat (first | exact Tk.all _ | exact Tk.nil | refine Tk.cons (by first | exact Rem.p0 | exact Rem.p1 | exact Rem.p2 | exact Rem.p3 | exact Rem.p4 | exact Rem.p5 | exact Rem.p6 | exact Rem.p7 | exact Rem.p8 | exact Rem.p9 | exact Rem.p10 | exact Rem.p11 | exact Rem.p12 | exact Rem.p13) ?_))
                      · omega
                      · exact ⟨rfl, hI.step hlt (by rintro (h | ⟨h, h2, h3⟩) <;> first | rfl | exact decide_eq_true (by omega) | simp_all) (by omega)⟩
                    · skip
                      refine GoP.qT rfl rfl rfl rfl (ps_move rfl rfl) ?_
                      first | refine GoP.qT rfl rfl rfl rfl (ps_fieldAddr rfl rfl) ?_ | refine GoP.qT rfl rfl rfl rfl (ps_fieldAddrR rfl rfl) ?_
                      first | refine GoP.qT rfl rfl rfl rfl (ps_load rfl (by first | exact At.p0 | exact At.p1 | exact At.p2 | exact At.p3 | exact At.p4 | exact At.p5 | exact At.p6 | exact At.p7 | exact At.p8 | exact At.p9 | exact At.p10 | exact At.p11 | exact At.p12 | exact At.p13) (by first | exact At.p0 | exact At.p1 | exact At.p2 | exact At.p3 | exact At.p4 | exact At.p5 | exact At.p6 | exact At.p7 | exact At.p8 | exact At.p9 | exact At.p10 | exact At.p11 | exact At.p12 | exact At.p13) ?_ rfl rfl) ?_ | refine GoP.qT rfl rfl rfl rfl (ps_loadR rfl ?_ rfl rfl) ?_
                      · first | exact Nat.zero_lt_one | assumption | omega | exact InI.of (by omega) (by omega) | (simp only [ints_len, bools_len, st1_len, arcs_len, lits_len, List.length_set, List.length_append, List.length_cons, List.length_nil, List.length_replicate]; omega)
                      first | refine GoP.qT rfl rfl rfl rfl (ps_indexAddr0N rfl rfl ?_ rfl) ?_ | refine GoP.qT rfl rfl rfl rfl (ps_indexAddrRN rfl rfl ?_ rfl) ?_ | refine GoP.qT rfl rfl rfl rfl (ps_indexAddr0 rfl rfl ?_ rfl) ?_ | refine GoP.qT rfl rfl rfl rfl (ps_indexAddrN rfl rfl ?_ rfl) ?_ | refine GoP.qT rfl rfl rfl rfl (ps_indexAddrRN rfl rfl ?_ rfl) ?_ | refine GoP.qT rfl rfl rfl rfl (ps_indexAddr rfl rfl ?_ rfl) ?_ | refine GoP.qT rfl rfl rfl rfl (ps_indexAddrR rfl rfl ?_ rfl) ?_
                      · first | exact Nat.zero_lt_one | assumption | omega | exact InI.of (by omega) (by omega) | (simp only [ints_len, bools_len, st1_len, arcs_len, lits_len, List.length_set, List.length_append, List.length_cons, List.length_nil, List.length_replicate]; omega)
                      first | refine GoP.qT rfl rfl rfl rfl (ps_load rfl (by first | exact At.p0 | exact At.p1 | exact At.p2 | exact At.p3 | exact At.p4 | exact At.p5 | exact At.p6 | exact At.p7 | exact At.p8 | exact At.p9 | exact At.p10 | exact At.p11 | exact At.p12 | exact At.p13) (by first | exact At.p0 | exact At.p1 | exact At.p2 | exact At.p3 | exact At.p4 | exact At.p5 | exact At.p6 | exact At.p7 | exact At.p8 | exact At.p9 | exact At.p10 | exact At.p11 | exact At.p12 | exact At.p13) ?_ rfl rfl) ?_ | refine GoP.qT rfl rfl rfl rfl (ps_loadR rfl ?_ rfl rfl) ?_
                      · first | exact Nat.zero_lt_one | assumption | omega | exact InI.of (by omega) (by omega) | (simp only [ints_len, bools_len, st1_len, arcs_len, lits_len, List.length_set, List.length_append, List.length_cons, List.length_nil, List.length_replicate]; omega)
                      refine GoP.qT rfl rfl rfl rfl (ps_move rfl rfl) ?_
                      first | refine GoP.decideD 121 rfl (fun h208 => ?_) (fun h208 => ?_) | refine GoP.decide 121 rfl (fun h208 => ?_) (fun h208 => ?_)
                      · skip
                        refine GoP.qT rfl rfl rfl rfl (ps_move rfl rfl) ?_
                        first | refine GoP.qT rfl rfl rfl rfl (ps_fieldAddr rfl rfl) ?_ | refine GoP.qT rfl rfl rfl rfl (ps_fieldAddrR rfl rfl) ?_
                        first | refine GoP.qT rfl rfl rfl rfl (ps_load rfl (by first | exact At.p0 | exact At.p1 | exact At.p2 | exact At.p3 | exact At.p4 | exact At.p5 | exact At.p6 | exact At.p7 | exact At.p8 | exact At.p9 | exact At.p10 | exact At.p11 | exact At.p12 | exact At.p13) (by first | exact At.p0 | exact At.p1 | exact At.p2 | exact At.p3 | exact At.p4 | exact At.p5 | exact At.p6 | exact At.p7 | exact At.p8 | exact At.p9 | exact At.p10 | exact At.p11 | exact At.p12 | exact At.p13) ?_ rfl rfl) ?_ | refine GoP.qT rfl rfl rfl rfl (ps_loadR rfl ?_ rfl rfl) ?_
                        · first | exact Nat.zero_lt_one | assumption | omega | exact InI.of (by omega) (by omega) | (simp only [ints_len, bools_len, st1_len, arcs_len, lits_len, List.length_set, List.length_append, List.length_cons, List.length_nil, List.length_replicate]; omega)
                        first | refine GoP.qT rfl rfl rfl rfl (ps_indexAddr0N rfl rfl ?_ rfl) ?_ | refine GoP.qT rfl rfl rfl rfl (ps_indexAddrRN rfl rfl ?_ rfl) ?_ | refine GoP.qT rfl rfl rfl rfl (ps_indexAddr0 rfl rfl ?_ rfl) ?_ | refine GoP.qT rfl rfl rfl rfl (ps_indexAddrN rfl rfl ?_ rfl) ?_ | refine GoP.qT rfl rfl rfl rfl (ps_indexAddrRN rfl rfl ?_ rfl) ?_ | refine GoP.qT rfl rfl rfl rfl (ps_indexAddr rfl rfl ?_ rfl) ?_ | refine GoP.qT rfl rfl rfl rfl (ps_indexAddrR rfl rfl ?_ rfl) ?_
                        · first | exact Nat.zero_lt_one | assumption | omega | exact InI.of (by omega) (by omega) | (simp only [ints_len, bools_len, st1_len, arcs_len, lits_len, List.length_set, List.length_append, List.length_cons, List.length_nil, List.length_replicate]; omega)
                        first | refine GoP.qT rfl rfl rfl rfl (ps_load rfl (by first | exact At.p0 | exact At.p1 | exact At.p2 | exact At.p3 | exact At.p4 | exact At.p5 | exact At.p6 | exact At.p7 | exact At.p8 | exact At.p9 | exact At.p10 | exact At.p11 | exact At.p12 | exact At.p13) (by first | exact At.p0 | exact At.p1 | exact At.p2 | exact At.p3 | exact At.p4 | exact At.p5 | exact At.p6 | exact At.p7 | exact At.p8 | exact At.p9 | exact At.p10 | exact At.p11 | exact At.p12 | exact At.p13) ?_ rfl rfl) ?_ | refine GoP.qT rfl rfl rfl rfl (ps_loadR rfl ?_ rfl rfl) ?_
                        · first | exact Nat.zero_lt_one | assumption | omega | exact InI.of (by omega) (by omega) | (simp only [ints_len, bools_len, st1_len, arcs_len, lits_len, List.length_set, List.length_append, List.length_cons, List.length_nil, List.length_replicate]; omega)
                        refine GoP.qT rfl rfl rfl rfl (ps_pickT rfl rfl rfl) ?_
                        refine GoP.qT rfl rfl rfl rfl (ps_move rfl rfl) ?_
                        first | refine GoP.decideD 128 rfl (fun h216 => ?_) (fun h216 => ?_) | refine GoP.decide 128 rfl (fun h216 => ?_) (fun h216 => ?_)
                        · skip
                          refine GoP.qT rfl rfl rfl rfl (ps_move rfl rfl) ?_
                          first | refine GoP.qT rfl rfl rfl rfl (ps_fieldAddr rfl rfl) ?_ | refine GoP.qT rfl rfl rfl rfl (ps_fieldAddrR rfl rfl) ?_
                          first | refine GoP.qT rfl rfl rfl rfl (ps_load rfl (by first | exact At.p0 | exact At.p1 | exact At.p2 | exact At.p3 | exact At.p4 | exact At.p5 | exact At.p6 | exact At.p7 | exact At.p8 | exact At.p9 | exact At.p10 | exact At.p11 | exact At.p12 | exact At.p13) (by first | exact At.p0 | exact At.p1 | exact At.p2 | exact At.p3 | exact At.p4 | exact At.p5 | exact At.p6 | exact At.p7 | exact At.p8 | exact At.p9 | exact At.p10 | exact At.p11 | exact At.p12 | exact At.p13) ?_ rfl rfl) ?_ | refine GoP.qT rfl rfl rfl rfl (ps_loadR rfl ?_ rfl rfl) ?_
                          · first | exact Nat.zero_lt_one | assumption | omega | exact InI.of (by omega) (by omega) | (simp only [ints_len, bools_len, st1_len, arcs_len, lits_len, List.length_set, List.length_append, List.length_cons, List.length_nil, List.length_replicate]; omega)
                          first | refine GoP.qT rfl rfl rfl rfl (ps_indexAddr0N rfl rfl ?_ rfl) ?_ | refine GoP.qT rfl rfl rfl rfl (ps_indexAddrRN rfl rfl ?_ rfl) ?_ | refine GoP.qT rfl rfl rfl rfl (ps_indexAddr0 rfl rfl ?_ rfl) ?_ | refine GoP.qT rfl rfl rfl rfl (ps_indexAddrN rfl rfl ?_ rfl) ?_ | refine GoP.qT rfl rfl rfl rfl (ps_indexAddrRN rfl rfl ?_ rfl) ?_ | refine GoP.qT rfl rfl rfl rfl (ps_indexAddr rfl rfl ?_ rfl) ?_ | refine GoP.qT rfl rfl rfl rfl (ps_indexAddrR rfl rfl ?_ rfl) ?_
                          · first | exact Nat.zero_lt_one | assumption | omega | exact InI.of (by omega) (by omega) | (simp only [ints_len, bools_len, st1_len, arcs_len, lits_len, List.length_set, List.length_append, List.length_cons, List.length_nil, List.length_replicate]; omega)
                          first | refine GoP.qT rfl rfl rfl rfl (ps_load rfl (by first | exact At.p0 | exact At.p1 | exact At.p2 | exact At.p3 | exact At.p4 | exact At.p5 | exact At.p6 | exact At.p7 | exact At.p8 | exact At.p9 | exact At.p10 | exact At.p11 | exact At.p12 | exact At.p13) (by first | exact At.p0 | exact At.p1 | exact At.p2 | exact At.p3 | exact At.p4 | exact At.p5 | exact At.p6 | exact At.p7 | exact At.p8 | exact At.p9 | exact At.p10 | exact At.p11 | exact At.p12 | exact At.p13) ?_ rfl rfl) ?_ | refine GoP.qT rfl rfl rfl rfl (ps_loadR rfl ?_ rfl rfl) ?_
                          · first | exact Nat.zero_lt_one | assumption | omega | exact InI.of (by omega) (by omega) | (simp only [ints_len, bools_len, st1_len, arcs_len, lits_len, List.length_set, List.length_append, List.length_cons, List.length_nil, List.length_replicate]; omega)
                          refine GoP.qT rfl rfl rfl rfl (ps_move rfl rfl) ?_
                          first | refine GoP.qT rfl rfl rfl rfl (ps_fieldAddr rfl rfl) ?_ | refine GoP.qT rfl rfl rfl rfl (ps_fieldAddrR rfl rfl) ?_
                          first | refine GoP.qT rfl rfl rfl rfl (ps_load rfl (by first | exact At.p0 | exact At.p1 | exact At.p2 | exact At.p3 | exact At.p4 | exact At.p5 | exact At.p6 | exact At.p7 | exact At.p8 | exact At.p9 | exact At.p10 | exact At.p11 | exact At.p12 | exact At.p13) (by first | exact At.p0 | exact At.p1 | exact At.p2 | exact At.p3 | exact At.p4 | exact At.p5 | exact At.p6 | exact At.p7 | exact At.p8 | exact At.p9 | exact At.p10 | exact At.p11 | exact At.p12 | exact At.p13) ?_ rfl rfl) ?_ | refine GoP.qT rfl rfl rfl rfl (ps_loadR rfl ?_ rfl rfl) ?_
                          · first | exact Nat.zero_lt_one | assumption | omega | exact InI.of (by omega) (by omega) | (simp only [ints_len, bools_len, st1_len, arcs_len, lits_len, List.length_set, List.length_append, List.length_cons, List.length_nil, List.length_replicate]; omega)
                          first | refine GoP.qT rfl rfl rfl rfl (ps_indexAddr0N rfl rfl ?_ rfl) ?_ | refine GoP.qT rfl rfl rfl rfl (ps_indexAddrRN rfl rfl ?_ rfl) ?_ | refine GoP.qT rfl rfl rfl rfl (ps_indexAddr0 rfl rfl ?_ rfl) ?_ | refine GoP.qT rfl rfl rfl rfl (ps_indexAddrN rfl rfl ?_ rfl) ?_ | refine GoP.qT rfl rfl rfl rfl (ps_indexAddrRN rfl rfl ?_ rfl) ?_ | refine GoP.qT rfl rfl rfl rfl (ps_indexAddr rfl rfl ?_ rfl) ?_ | refine GoP.qT rfl rfl rfl rfl (ps_indexAddrR rfl rfl ?_ rfl) ?_
                          · first | exact Nat.zero_lt_one | assumption | omega | exact InI.of (by omega) (by omega) | (simp only [ints_len, bools_len, st1_len, arcs_len, lits_len, List.length_set, List.length_append, List.length_cons, List.length_nil, List.length_replicate]; omega)
                          first | refine GoP.qT rfl rfl rfl rfl (ps_load rfl (by first | exact At.p0 | exact At.p1 | exact At.p2 | exact At.p3 | exact At.p4 | exact At.p5 | exact At.p6 | exact At.p7 | exact At.p8 | exact At.p9 | exact At.p10 | exact At.p11 | exact At.p12 | exact At.p13) (by first | exact At.p0 | exact At.p1 | exact At.p2 | exact At.p3 | exact At.p4 | exact At.p5 | exact At.p6 | exact At.p7 | exact At.p8 | exact At.p9 | exact At.p10 | exact At.p11 | exact At.p12 | exact At.p13) ?_ rfl rfl) ?_ | refine GoP.qT rfl rfl rfl rfl (ps_loadR rfl ?_ rfl rfl) ?_
                          · first | exact Nat.zero_lt_one | assumption | omega | exact InI.of (by omega) (by omega) | (simp only [ints_len, bools_len, st1_len, arcs_len, lits_len, List.length_set, List.length_append, List.length_cons, List.length_nil, List.length_replicate]; omega)
                          first | refine GoP.qT rfl rfl rfl rfl (ps_fieldAddr rfl rfl) ?_ | refine GoP.qT rfl rfl rfl rfl (ps_fieldAddrR rfl rfl) ?_
                          first | refine GoP.qT rfl rfl rfl rfl (ps_load rfl (by first | exact At.p0 | exact At.p1 | exact At.p2 | exact At.p3 | exact At.p4 | exact At.p5 | exact At.p6 | exact At.p7 | exact At.p8 | exact At.p9 | exact At.p10 | exact At.p11 | exact At.p12 | exact At.p13) (by first | exact At.p0 | exact At.p1 | exact At.p2 | exact At.p3 | exact At.p4 | exact At.p5 | exact At.p6 | exact At.p7 | exact At.p8 | exact At.p9 | exact At.p10 | exact At.p11 | exact At.p12 | exact At.p13) ?_ rfl rfl) ?_ | refine GoP.qT rfl rfl rfl rfl (ps_loadR rfl ?_ rfl rfl) ?_
                          · first | exact Nat.zero_lt_one | assumption | omega | exact InI.of (by omega) (by omega) | (simp only [ints_len, bools_len, st1_len, arcs_len, lits_len, List.length_set, List.length_append, List.length_cons, List.length_nil, List.length_replicate]; omega)
                          refine GoP.qT rfl rfl rfl rfl (ps_add rfl rfl rfl ?_) ?_
                          · first | exact Nat.zero_lt_one | assumption | omega | exact InI.of (by omega) (by omega) | (simp only [ints_len, bools_len, st1_len, arcs_len, lits_len, List.length_set, List.length_append, List.length_cons, List.length_nil, List.length_replicate]; omega)
                          first | refine GoP.qT rfl rfl rfl rfl (ps_eql rfl rfl rfl) ?_ | refine GoP.qT rfl rfl rfl rfl (ps_eqlB rfl rfl rfl) ?_ | refine GoP.qT rfl rfl rfl rfl (ps_eqlA rfl rfl rfl rfl) ?_
                          refine GoP.qT rfl rfl rfl rfl (ps_pickT rfl rfl rfl) ?_
                          refine GoP.qN rfl (ps_pickF rfl rfl rfl) ?_
                          first | refine GoP.qN rfl (ps_indexAddr0N rfl rfl ?_ rfl) ?_ | refine GoP.qN rfl (ps_indexAddrRN rfl rfl ?_ rfl) ?_ | refine GoP.qN rfl (ps_indexAddr0 rfl rfl ?_ rfl) ?_ | refine GoP.qN rfl (ps_indexAddrN rfl rfl ?_ rfl) ?_ | refine GoP.qN rfl (ps_indexAddrRN rfl rfl ?_ rfl) ?_ | refine GoP.qN rfl (ps_indexAddr rfl rfl ?_ rfl) ?_ | refine GoP.qN rfl (ps_indexAddrR rfl rfl ?_ rfl) ?_
                          · first | exact Nat.zero_lt_one | assumption | omega | exact InI.of (by omega) (by omega) | (simp only [ints_len, bools_len, st1_len, arcs_len, lits_len, List.length_set, List.length_append, List.length_cons, List.length_nil, List.length_replicate]; omega)
                          refine GoP.one1 rfl trivial (ef_store rfl rfl rfl (by first | exact At.p0 | exact At.p1 | exact At.p2 | exact At.p3 | exact At.p4 | exact At.p5 | exact At.p6 | exact At.p7 | exact At.p8 | exact At.p9 | exact At.p10 | exact At.p11 | exact At.p12 | exact At.p13) (by first | exact upd_ints | exact upd_bools | exact upd_st1) ?_ rfl) (by exact (Take.cons _ _ _ _ _ (by first | exact Rem.p0 | exact Rem.p1 | exact Rem.p2 | exact Rem.p3 | exact Rem.p4 | exact Rem.p5 | exact Rem.p6 | exact Rem.p7 | exact Rem.p8 | exact Rem.p9 | exact Rem.p10 | exact Rem.p11 | exact Rem.p12 | exact Rem.p13) (Take.cons _ _ _ _ _ (by first | exact Rem.p0 | exact Rem.p1 | exact Rem.p2 | exact Rem.p3 | exact Rem.p4 | exact Rem.p5 | exact Rem.p6 | exact Rem.p7 | exact Rem.p8 | exact Rem.p9 | exact Rem.p10 | exact Rem.p11 | exact Rem.p12 | exact Rem.p13) (Take.cons _ _ _ _ _ (by first | exact Rem.p0 | exact Rem.p1 | exact Rem.p2 | exact Rem.p3 | exact Rem.p4 | exact Rem.p5 | exact Rem.p6 | exact Rem.p7 | exact Rem.p8 | exact Rem.p9 | exact Rem.p10 | exact Rem.p11 | exact Rem.p12 | exact Rem.p13) (Take.cons _ _ _ _ _ (by first | exact Rem.p0 | exact Rem.p1 | exact Rem.p2 | exact Rem.p3 | exact Rem.p4 | exact Rem.p5 | exact Rem.p6 | exact Rem.p7 | exact Rem.p8 | exact Rem.p9 | exact Rem.p10 | exact Rem.p11 | exact Rem.p12 | exact Rem.p13) (Take.nil _)))))) ?_
                          · first | exact Nat.zero_lt_one | assumption | omega | exact InI.of (by omega) (by omega) | (simp only [ints_len, bools_len, st1_len, arcs_len, lits_len, List.length_set, List.length_append, List.length_cons, List.length_nil, List.length_replicate]; omega)
                          refine GoP.done ?_
                          refine GoK.blk ?_
                          refine GoK.code ?_
                          refine GoC.region ?_
                          refine GoO.pure (ps_add rfl rfl rfl ?_) ?_
                          · first | exact Nat.zero_lt_one | assumption | omega | exact InI.of (by omega) (by omega) | (simp only [ints_len, bools_len, st1_len, arcs_len, lits_len, List.length_set, List.length_append, List.length_cons, List.length_nil, List.length_replicate]; omega)
                          refine GoO.pure (ps_move rfl rfl) ?_
                          refine GoO.nil ?_
                          refine GoK.againE (g.as.length - (k + 1)) ((k + 1, _)) ?_ ?_ (by repeat (first | exact EnvLe.nil | refine EnvLe.cons rfl ?_)) (by repeat (first | exact Tk.all _ | exact Tk.nil | refine Tk.cons (by first | exact Rem.p0 | exact Rem.p1 | exact Rem.p2 | exact Rem.p3 | exact Rem.p4 | exact Rem.p5 | exact Rem.p6 | exact Rem.p7 | exact Rem.p8 | exact Rem.p9 | exact Rem.p10 | exact Rem.p11 | exact Rem.p12 | exact Rem.p13) ?_))
                          · omega
                          · exact ⟨rfl, hI.step hlt (by rintro (h | ⟨h, h2, h3⟩) <;> first | rfl | exact decide_eq_true (by omega) | simp_all) (by omega)⟩
                        · skip
                          refine GoP.qF rfl rfl rfl rfl rfl ?_
                          refine GoP.qF rfl rfl rfl rfl rfl ?_
                          refine GoP.qF rfl rfl rfl rfl rfl ?_
                          refine GoP.qF rfl rfl rfl rfl rfl ?_
                          refine GoP.qF rfl rfl rfl rfl rfl ?_
                          refine GoP.qF rfl rfl rfl rfl rfl ?_
                          refine GoP.qF rfl rfl rfl rfl rfl ?_
                          refine GoP.qF rfl rfl rfl rfl rfl ?_
                          refine GoP.qF rfl rfl rfl rfl rfl ?_
                          refine GoP.qF rfl rfl rfl rfl rfl ?_
                          refine GoP.qF rfl rfl rfl rfl rfl ?_
                          refine GoP.qF rfl rfl rfl rfl rfl ?_
                          refine GoP.qF rfl rfl rfl rfl rfl ?_
                          refine GoP.qF rfl rfl rfl rfl rfl ?_
                          refine GoP.qT rfl rfl rfl rfl (ps_pickF rfl rfl rfl) ?_
                          refine GoP.qN rfl (ps_pickF rfl rfl rfl) ?_
                          first | refine GoP.qN rfl (ps_indexAddr0N rfl rfl ?_ rfl) ?_ | refine GoP.qN rfl (ps_indexAddrRN rfl rfl ?_ rfl) ?_ | refine GoP.qN rfl (ps_indexAddr0 rfl rfl ?_ rfl) ?_ | refine GoP.qN rfl (ps_indexAddrN rfl rfl ?_ rfl) ?_ | refine GoP.qN rfl (ps_indexAddrRN rfl rfl ?_ rfl) ?_ | refine GoP.qN rfl (ps_indexAddr rfl rfl ?_ rfl) ?_ | refine GoP.qN rfl (ps_indexAddrR rfl rfl ?_ rfl) ?_
                          · first | exact Nat.zero_lt_one | assumption | omega | exact InI.of (by omega) (by omega) | (simp only [ints_len, bools_len, st1_len, arcs_len, lits_len, List.length_set, List.length_append, List.length_cons, List.length_nil, List.length_replicate]; omega)
                          refine GoP.one1 rfl trivial (ef_store rfl rfl rfl (by first | exact At.p0 | exact At.p1 | exact At.p2 | exact At.p3 | exact At.p4 | exact At.p5 | exact At.p6 | exact At.p7 | exact At.p8 | exact At.p9 | exact At.p10 | exact At.p11 | exact At.p12 | exact At.p13) (by first | exact upd_ints | exact upd_bools | exact upd_st1) ?_ rfl) (by exact (Take.cons _ _ _ _ _ (by first | exact Rem.p0 | exact Rem.p1 | exact Rem.p2 | exact Rem.p3 | exact Rem.p4 | exact Rem.p5 | exact Rem.p6 | exact Rem.p7 | exact Rem.p8 | exact Rem.p9 | exact Rem.p10 | exact Rem.p11 | exact Rem.p12 | exact Rem.p13) (Take.cons _ _ _ _ _ (by first | exact Rem.p0 | exact Rem.p1 | exact Rem.p2 | exact Rem.p3 | exact Rem.p4 | exact Rem.p5 | exact Rem.p6 | exact Rem.p7 | exact Rem.p8 | exact Rem.p9 | exact Rem.p10 | exact Rem.p11 | exact Rem.p12 | exact Rem.p13) (Take.cons _ _ _ _ _ (by first | exact Rem.p0 | exact Rem.p1 | exact Rem.p2 | exact Rem.p3 | exact Rem.p4 | exact Rem.p5 | exact Rem.p6 | exact Rem.p7 | exact Rem.p8 | exact Rem.p9 | exact Rem.p10 | exact Rem.p11 | exact Rem.p12 | exact Rem.p13) (Take.cons _ _ _ _ _ (by first | exact Rem.p0 | exact Rem.p1 | exact Rem.p2 | exact Rem.p3 | exact Rem.p4 | exact Rem.p5 | exact Rem.p6 | exact Rem.p7 | exact Rem.p8 | exact Rem.p9 | exact Rem.p10 | exact Rem.p11 | exact Rem.p12 | exact Rem.p13) (Take.nil _)))))) ?_
                          · first | exact Nat.zero_lt_one | assumption | omega | exact InI.of (by omega) (by omega) | (simp only [ints_len, bools_len, st1_len, arcs_len, lits_len, List.length_set, List.length_append, List.length_cons, List.length_nil, List.length_replicate]; omega)
                          refine GoP.done ?_
                          refine GoK.blk ?_
                          refine GoK.code ?_
                          refine GoC.region ?_
                          refine GoO.pure (ps_add rfl rfl rfl ?_) ?_
                          · first | exact Nat.zero_lt_one | assumption | omega | exact InI.of (by omega) (by omega) | (simp only [ints_len, bools_len, st1_len, arcs_len, lits_len, List.length_set, List.length_append, List.length_cons, List.length_nil, List.length_replicate]; omega)
                          refine GoO.pure (ps_move rfl rfl) ?_
                          refine GoO.nil ?_
                          refine GoK.againE (g.as.length - (k + 1)) ((k + 1, _)) ?_ ?_ (by repeat (first | exact EnvLe.nil | refine EnvLe.cons rfl ?_)) (by repeat (first | exact Tk.all _ | exact Tk.nil | refine Tk.cons (by first | exact Rem.p0 | exact Rem.p1 | exact Rem.p2 | exact Rem.p3 | exact Rem.p4 | exact Rem.p5 | exact Rem.p6 | exact Rem.p7 | exact Rem.p8 | exact Rem.p9 | exact Rem.p10 | exact Rem.p11 | exact Rem.p12 | exact Rem.p13) ?_))
                          · omega
                          · exact ⟨rfl, hI.step hlt (by rintro (h | ⟨h, h2, h3⟩) <;> first | rfl | exact decide_eq_true (by omega) | simp_all) (by omega)⟩
                      · skip
                        refine GoP.qF rfl rfl rfl rfl rfl ?_
                        refine GoP.qF rfl rfl rfl rfl rfl ?_
                        refine GoP.qF rfl rfl rfl rfl rfl ?_
                        refine GoP.qF rfl rfl rfl rfl rfl ?_
                        refine GoP.qF rfl rfl rfl rfl rfl ?_
                        refine GoP.qT rfl rfl rfl rfl (ps_pickF rfl rfl rfl) ?_
                        refine GoP.qT rfl rfl rfl rfl (ps_move rfl rfl) ?_
                        refine GoP.qF rfl rfl rfl rfl rfl ?_
                        refine GoP.qF rfl rfl rfl rfl rfl ?_
                        refine GoP.qF rfl rfl rfl rfl rfl ?_
                        refine GoP.qF rfl rfl rfl rfl rfl ?_
                        refine GoP.qF rfl rfl rfl rfl rfl ?_
                        refine GoP.qF rfl rfl rfl rfl rfl ?_
                        refine GoP.qF rfl rfl rfl rfl rfl ?_
                        refine GoP.qF rfl rfl rfl rfl rfl ?_
                        refine GoP.qF rfl rfl rfl rfl rfl ?_
                        refine GoP.qF rfl rfl rfl rfl rfl ?_
                        refine GoP.qF rfl rfl rfl rfl rfl ?_
                        refine GoP.qF rfl rfl rfl rfl rfl ?_
                        refine GoP.qF rfl rfl rfl rfl rfl ?_
                        refine GoP.qF rfl rfl rfl rfl rfl ?_
                        refine GoP.qT rfl rfl rfl rfl (ps_pickF rfl rfl rfl) ?_
                        refine GoP.qN rfl (ps_pickF rfl rfl rfl) ?_
                        first | refine GoP.qN rfl (ps_indexAddr0N rfl rfl ?_ rfl) ?_ | refine GoP.qN rfl (ps_indexAddrRN rfl rfl ?_ rfl) ?_ | refine GoP.qN rfl (ps_indexAddr0 rfl rfl ?_ rfl) ?_ | refine GoP.qN rfl (ps_indexAddrN rfl rfl ?_ rfl) ?_ | refine GoP.qN rfl (ps_indexAddrRN rfl rfl ?_ rfl) ?_ | refine GoP.qN rfl (ps_indexAddr rfl rfl ?_ rfl) ?_ | refine GoP.qN rfl (ps_indexAddrR rfl rfl ?_ rfl) ?_
                        · first | exact Nat.zero_lt_one | assumption | omega | exact InI.of (by omega) (by omega) | (simp only [ints_len, bools_len, st1_len, arcs_len, lits_len, List.length_set, List.length_append, List.length_cons, List.length_nil, List.length_replicate]; omega)
                        refine GoP.one1 rfl trivial (ef_store rfl rfl rfl (by first | exact At.p0 | exact At.p1 | exact At.p2 | exact At.p3 | exact At.p4 | exact At.p5 | exact At.p6 | exact At.p7 | exact At.p8 | exact At.p9 | exact At.p10 | exact At.p11 | exact At.p12 | exact At.p13) (by first | exact upd_ints | exact upd_bools | exact upd_st1) ?_ rfl) (by exact (Take.cons _ _ _ _ _ (by first | exact Rem.p0 | exact Rem.p1 | exact Rem.p2 | exact Rem.p3 | exact Rem.p4 | exact Rem.p5 | exact Rem.p6 | exact Rem.p7 | exact Rem.p8 | exact Rem.p9 | exact Rem.p10 | exact Rem.p11 | exact Rem.p12 | exact Rem.p13) (Take.cons _ _ _ _ _ (by first | exact Rem.p0 | exact Rem.p1 | exact Rem.p2 | exact Rem.p3 | exact Rem.p4 | exact Rem.p5 | exact Rem.p6 | exact Rem.p7 | exact Rem.p8 | exact Rem.p9 | exact Rem.p10 | exact Rem.p11 | exact Rem.p12 | exact Rem.p13) (Take.cons _ _ _ _ _ (by first | exact Rem.p0 | exact Rem.p1 | exact Rem.p2 | exact Rem.p3 | exact Rem.p4 | exact Rem.p5 | exact Rem.p6 | exact Rem.p7 | exact Rem.p8 | exact Rem.p9 | exact Rem.p10 | exact Rem.p11 | exact Rem.p12 | exact Rem.p13) (Take.cons _ _ _ _ _ (by first | exact Rem.p0 | exact Rem.p1 | exact Rem.p2 | exact Rem.p3 | exact Rem.p4 | exact Rem.p5 | exact Rem.p6 | exact Rem.p7 | exact Rem.p8 | exact Rem.p9 | exact Rem.p10 | exact Rem.p11 | exact Rem.p12 | exact Rem.p13) (Take.nil _)))))) ?_
                        · first | exact Nat.zero_lt_one | assumption | omega | exact InI.of (by omega) (by omega) | (simp only [ints_len, bools_len, st1_len, arcs_len, lits_len, List.length_set, List.length_append, List.length_cons, List.length_nil, List.length_replicate]; omega)
                        refine GoP.done ?_
                        refine GoK.blk ?_
                        refine GoK.code ?_
                        refine GoC.region ?_
                        refine GoO.pure (ps_add rfl rfl rfl ?_) ?_
                        · first | exact Nat.zero_lt_one | assumption | omega | exact InI.of (by omega) (by omega) | (simp only [ints_len, bools_len, st1_len, arcs_len, lits_len, List.length_set, List.length_append, List.length_cons, List.length_nil, List.length_replicate]; omega)
                        refine GoO.pure (ps_move rfl rfl) ?_
                        refine GoO.nil ?_
                        refine GoK.againE (g.as.length - (k + 1)) ((k + 1, _)) ?_ ?_ (by repeat (first | exact EnvLe.nil | refine EnvLe.cons rfl ?_)) (by repeat (first | exact Tk.all _ | exact Tk.nil | refine Tk.cons (by first | exact Rem.p0 | exact Rem.p1 | exact Rem.p2 | exact Rem.p3 | exact Rem.p4 | exact Rem.p5 | exact Rem.p6 | exact Rem.p7 | exact Rem.p8 | exact Rem.p9 | exact Rem.p10 | exact Rem.p11 | exact Rem.p12 | exact Rem.p13) ?_))
                        · omega
                        · exact ⟨rfl, hI.step hlt (by rintro (h | ⟨h, h2, h3⟩) <;> first | rfl | exact decide_eq_true (by omega) | simp_all) (by omega)⟩
                · skip
                  have ek : k = g.as.length := by omega
                  subst ek
                  refine GoC.exit rfl ?_
                  refine GoK.code ?_
                  refine GoC.seq ?_
                  refine GoC.seq ?_
                  refine GoC.region ?_
                  refine GoO.pure (ps_move rfl rfl) ?_
                  refine GoO.pure (ps_len rfl (by constructor) rfl) ?_
                  refine GoO.pure (ps_move rfl rfl) ?_
                  refine GoO.nil ?_
                  refine GoK.code ?_
                  refine GoC.block ?_
                  refine GoC.loopE (σ := Nat) [6, 8, 148] (fun j => [(149, .i (j : Int))]) (fun j => []) (fun n j => n = g.n.toNat - j ∧ j ≤ g.n.toNat) (g.n.toNat) 0 ?_ (by repeat (first | exact EnvLe.nil | refine EnvLe.cons rfl ?_)) (by exact (Take.nil _)) ?_
                  · exact ⟨rfl, Nat.zero_le _⟩
                  rintro n j ⟨rfl, hj⟩
                  refine GoC.seq ?_
                  refine GoC.region ?_
                  refine GoO.pure (ps_lss rfl rfl rfl) ?_
                  refine GoO.nil ?_
                  refine GoK.code ?_
                  refine GoC.seq ?_
                  first | refine GoC.condD rfl (fun h255 => ?_) (fun h255 => ?_) | refine GoC.cond rfl (fun h255 => ?_) (fun h255 => ?_)
                  · skip
                    have hlt : j < g.n.toNat := by omega
                    refine GoC.skip ?_
                    refine GoK.code ?_
                    refine GoC.seq ?_
                    refine GoC.block ?_
                    refine GoC.seq ?_
                    refine GoC.region ?_
                    refine GoO.pure (ps_move rfl rfl) ?_
                    refine GoO.pure (ps_assign rfl rfl) ?_
                    refine GoO.nil ?_
                    refine GoK.code ?_
                    refine GoC.seq ?_
                    refine GoC.region ?_
                    refine GoO.pure (ps_move rfl rfl) ?_
                    refine GoO.pure (ps_move rfl rfl) ?_
                    first | refine GoO.pure (ps_indexAddr0N rfl rfl ?_ rfl) ?_ | refine GoO.pure (ps_indexAddrRN rfl rfl ?_ rfl) ?_ | refine GoO.pure (ps_indexAddr0 rfl rfl ?_ rfl) ?_ | refine GoO.pure (ps_indexAddrN rfl rfl ?_ rfl) ?_ | refine GoO.pure (ps_indexAddrRN rfl rfl ?_ rfl) ?_ | refine GoO.pure (ps_indexAddr rfl rfl ?_ rfl) ?_ | refine GoO.pure (ps_indexAddrR rfl rfl ?_ rfl) ?_
                    · first | exact Nat.zero_lt_one | assumption | omega | exact InI.of (by omega) (by omega) | (simp only [ints_len, bools_len, st1_len, arcs_len, lits_len, List.length_set, List.length_append, List.length_cons, List.length_nil, List.length_replicate]; omega)
                    first | refine GoO.pure (ps_load rfl (by first | exact At.p0 | exact At.p1 | exact At.p2 | exact At.p3 | exact At.p4 | exact At.p5 | exact At.p6 | exact At.p7 | exact At.p8 | exact At.p9 | exact At.p10 | exact At.p11 | exact At.p12 | exact At.p13) (by first | exact At.p0 | exact At.p1 | exact At.p2 | exact At.p3 | exact At.p4 | exact At.p5 | exact At.p6 | exact At.p7 | exact At.p8 | exact At.p9 | exact At.p10 | exact At.p11 | exact At.p12 | exact At.p13) ?_ rfl rfl) ?_ | refine GoO.pure (ps_loadR rfl ?_ rfl rfl) ?_
                    · first | exact Nat.zero_lt_one | assumption | omega | exact InI.of (by omega) (by omega) | (simp only [ints_len, bools_len, st1_len, arcs_len, lits_len, List.length_set, List.length_append, List.length_cons, List.length_nil, List.length_replicate]; omega)
                    refine GoO.pure (ps_move rfl rfl) ?_
                    first | refine GoO.guardD rfl rfl rfl rfl (fun h263 => ?_) (fun h263 => ?_) | refine GoO.guard rfl rfl rfl rfl (fun h263 => ?_) (fun h263 => ?_)
                    · skip
                      refine GoO.pure (ps_move rfl rfl) ?_
                      refine GoO.guardT rfl rfl rfl ?_
                      refine GoO.pure (ps_move rfl rfl) ?_
                      refine GoO.guardT rfl rfl rfl ?_
                      first | refine GoO.pure (ps_indexAddr0N rfl rfl ?_ rfl) ?_ | refine GoO.pure (ps_indexAddrRN rfl rfl ?_ rfl) ?_ | refine GoO.pure (ps_indexAddr0 rfl rfl ?_ rfl) ?_ | refine GoO.pure (ps_indexAddrN rfl rfl ?_ rfl) ?_ | refine GoO.pure (ps_indexAddrRN rfl rfl ?_ rfl) ?_ | refine GoO.pure (ps_indexAddr rfl rfl ?_ rfl) ?_ | refine GoO.pure (ps_indexAddrR rfl rfl ?_ rfl) ?_
                      · first | exact Nat.zero_lt_one | assumption | omega | exact InI.of (by omega) (by omega) | (simp only [ints_len, bools_len, st1_len, arcs_len, lits_len, List.length_set, List.length_append, List.length_cons, List.length_nil, List.length_replicate]; omega)
                      refine GoO.guardT rfl rfl rfl ?_
                      first | refine GoO.pure (ps_load rfl (by first | exact At.p0 | exact At.p1 | exact At.p2 | exact At.p3 | exact At.p4 | exact At.p5 | exact At.p6 | exact At.p7 | exact At.p8 | exact At.p9 | exact At.p10 | exact At.p11 | exact At.p12 | exact At.p13) (by first | exact At.p0 | exact At.p1 | exact At.p2 | exact At.p3 | exact At.p4 | exact At.p5 | exact At.p6 | exact At.p7 | exact At.p8 | exact At.p9 | exact At.p10 | exact At.p11 | exact At.p12 | exact At.p13) ?_ rfl rfl) ?_ | refine GoO.pure (ps_loadR rfl ?_ rfl rfl) ?_
                      · first | exact Nat.zero_lt_one | assumption | omega | exact InI.of (by omega) (by omega) | (simp only [ints_len, bools_len, st1_len, arcs_len, lits_len, List.length_set, List.length_append, List.length_cons, List.length_nil, List.length_replicate]; omega)
                      refine GoO.guardT rfl rfl rfl ?_
                      first | refine GoO.pure (ps_notD rfl rfl) ?_ | refine GoO.pure (ps_not rfl rfl) ?_
                      refine GoO.pure (ps_pickT rfl rfl rfl) ?_
                      refine GoO.nil ?_
                      refine GoK.code ?_
                      first | refine GoC.condD rfl (fun h270 => ?_) (fun h270 => ?_) | refine GoC.cond rfl (fun h270 => ?_) (fun h270 => ?_)
                      · skip
                        refine GoC.seq ?_
                        refine GoC.region ?_
                        refine GoO.pure (ps_assign rfl rfl) ?_
                        refine GoO.nil ?_
                        refine GoK.code ?_
                        refine GoC.ret1 (H' := []) Try.results4 (ResD.tmp rfl) (by exact (Take.nil _)) ?_
                        · exfalso; have k1 := hit_all hf hI ‹_›; simp_all
                      · skip
                        refine GoC.skip ?_
                        refine GoK.blk ?_
                        refine GoK.code ?_
                        refine GoC.region ?_
                        refine GoO.pure (ps_add rfl rfl rfl ?_) ?_
                        · first | exact Nat.zero_lt_one | assumption | omega | exact InI.of (by omega) (by omega) | (simp only [ints_len, bools_len, st1_len, arcs_len, lits_len, List.length_set, List.length_append, List.length_cons, List.length_nil, List.length_replicate]; omega)
                        refine GoO.pure (ps_move rfl rfl) ?_
                        refine GoO.nil ?_
                        refine GoK.againE (g.n.toNat - (j + 1)) (j + 1) ?_ ?_ (by repeat (first | exact EnvLe.nil | refine EnvLe.cons rfl ?_)) (by repeat (first | exact Tk.all _ | exact Tk.nil | refine Tk.cons (by first | exact Rem.p0 | exact Rem.p1 | exact Rem.p2 | exact Rem.p3 | exact Rem.p4 | exact Rem.p5 | exact Rem.p6 | exact Rem.p7 | exact Rem.p8 | exact Rem.p9 | exact Rem.p10 | exact Rem.p11 | exact Rem.p12 | exact Rem.p13) ?_))
                        · omega
                        · exact ⟨rfl, hlt⟩
                    · skip
                      refine GoO.guardF rfl rfl rfl rfl ?_
                      refine GoO.guardF rfl rfl rfl rfl ?_
                      refine GoO.guardF rfl rfl rfl rfl ?_
                      refine GoO.guardF rfl rfl rfl rfl ?_
                      refine GoO.pure (ps_pickF rfl rfl rfl) ?_
                      refine GoO.nil ?_
                      refine GoK.code ?_
                      refine GoC.condF rfl ?_
                      refine GoC.skip ?_
                      refine GoK.blk ?_
                      refine GoK.code ?_
                      refine GoC.region ?_
                      refine GoO.pure (ps_add rfl rfl rfl ?_) ?_
                      · first | exact Nat.zero_lt_one | assumption | omega | exact InI.of (by omega) (by omega) | (simp only [ints_len, bools_len, st1_len, arcs_len, lits_len, List.length_set, List.length_append, List.length_cons, List.length_nil, List.length_replicate]; omega)
                      refine GoO.pure (ps_move rfl rfl) ?_
                      refine GoO.nil ?_
                      refine GoK.againE (g.n.toNat - (j + 1)) (j + 1) ?_ ?_ (by repeat (first | exact EnvLe.nil | refine EnvLe.cons rfl ?_)) (by repeat (first | exact Tk.all _ | exact Tk.nil | refine Tk.cons (by first | exact Rem.p0 | exact Rem.p1 | exact Rem.p2 | exact Rem.p3 | exact Rem.p4 | exact Rem.p5 | exact Rem.p6 | exact Rem.p7 | exact Rem.p8 | exact Rem.p9 | exact Rem.p10 | exact Rem.p11 | exact Rem.p12 | exact Rem.p13) ?_))
                      · omega
                      · exact ⟨rfl, hlt⟩
                  · skip
                    refine GoC.exit rfl ?_
                    refine GoK.code ?_
                    refine GoC.seq ?_
                    refine GoC.region ?_
                    refine GoO.pure (ps_assign rfl rfl) ?_
                    refine GoO.nil ?_
                    refine GoK.code ?_
                    refine GoC.ret1 (H' := []) Try.results4 (ResD.tmp rfl) (by exact (Take.nil _)) ?_
                    · exact ⟨rfl, rfl⟩
            · skip
              refine GoO.guardF rfl rfl rfl rfl ?_
              refine GoO.guardF rfl rfl rfl rfl ?_
              refine GoO.guardF rfl rfl rfl rfl ?_
              refine GoO.guardF rfl rfl rfl rfl ?_
              refine GoO.pure (ps_pickT rfl rfl rfl) ?_
              refine GoO.nil ?_
              refine GoK.code ?_
              refine GoC.condT rfl ?_
              refine GoC.seq ?_
              refine GoC.region ?_
              refine GoO.pure (ps_assign rfl rfl) ?_
              refine GoO.nil ?_
              refine GoK.code ?_
              refine GoC.ret1 (H' := []) Try.results4 (ResD.tmp rfl) (by exact (Take.nil _)) ?_
              · exfalso; have k1 := hf.ks; have k2 := hf.fs; first | omega | simp_all
          · skip
            refine GoO.guardF rfl rfl rfl rfl ?_
            refine GoO.guardF rfl rfl rfl rfl ?_
            refine GoO.guardF rfl rfl rfl rfl ?_
            refine GoO.guardF rfl rfl rfl rfl ?_
            refine GoO.pure (ps_pickT rfl rfl rfl) ?_
            refine GoO.pure (ps_move rfl rfl) ?_
            refine GoO.guardF rfl rfl rfl rfl ?_
            refine GoO.guardF rfl rfl rfl rfl ?_
            refine GoO.guardF rfl rfl rfl rfl ?_
            refine GoO.guardF rfl rfl rfl rfl ?_
            refine GoO.guardF rfl rfl rfl rfl ?_
            refine GoO.pure (ps_pickT rfl rfl rfl) ?_
            refine GoO.nil ?_
            refine GoK.code ?_
            refine GoC.condT rfl ?_
            refine GoC.seq ?_
            refine GoC.region ?_
            refine GoO.pure (ps_assign rfl rfl) ?_
            refine GoO.nil ?_
            refine GoK.code ?_
            refine GoC.ret1 (H' := []) Try.results4 (ResD.tmp rfl) (by exact (Take.nil _)) ?_
            · exfalso; have k1 := hf.ks; have k2 := hf.fs; first | omega | simp_all
        · skip
          refine GoO.guardF rfl rfl rfl rfl ?_
          refine GoO.guardF rfl rfl rfl rfl ?_
          refine GoO.guardF rfl rfl rfl rfl ?_
          refine GoO.pure (ps_pickT rfl rfl rfl) ?_
          refine GoO.pure (ps_move rfl rfl) ?_
          refine GoO.guardF rfl rfl rfl rfl ?_
          refine GoO.guardF rfl rfl rfl rfl ?_
          refine GoO.guardF rfl rfl rfl rfl ?_
          refine GoO.guardF rfl rfl rfl rfl ?_
          refine GoO.guardF rfl rfl rfl rfl ?_
          refine GoO.pure (ps_pickT rfl rfl rfl) ?_
          refine GoO.pure (ps_move rfl rfl) ?_
          refine GoO.guardF rfl rfl rfl rfl ?_
          refine GoO.guardF rfl rfl rfl rfl ?_
          refine GoO.guardF rfl rfl rfl rfl ?_
          refine GoO.guardF rfl rfl rfl rfl ?_
          refine GoO.guardF rfl rfl rfl rfl ?_
          refine GoO.pure (ps_pickT rfl rfl rfl) ?_
          refine GoO.nil ?_
          refine GoK.code ?_
          refine GoC.condT rfl ?_
          refine GoC.seq ?_
          refine GoC.region ?_
          refine GoO.pure (ps_assign rfl rfl) ?_
          refine GoO.nil ?_
          refine GoK.code ?_
          refine GoC.ret1 (H' := []) Try.results4 (ResD.tmp rfl) (by exact (Take.nil _)) ?_
          · exfalso; have k1 := hf.ks; have k2 := hf.fs; first | omega | simp_all
      · skip
        refine GoO.guardF rfl rfl rfl rfl ?_
        refine GoO.pure (ps_pickT rfl rfl rfl) ?_
        refine GoO.pure (ps_move rfl rfl) ?_
        refine GoO.guardF rfl rfl rfl rfl ?_
        refine GoO.guardF rfl rfl rfl rfl ?_
        refine GoO.guardF rfl rfl rfl rfl ?_
        refine GoO.guardF rfl rfl rfl rfl ?_
        refine GoO.pure (ps_pickT rfl rfl rfl) ?_
        refine GoO.pure (ps_move rfl rfl) ?_
        refine GoO.guardF rfl rfl rfl rfl ?_
        refine GoO.guardF rfl rfl rfl rfl ?_
        refine GoO.guardF rfl rfl rfl rfl ?_
        refine GoO.guardF rfl rfl rfl rfl ?_
        refine GoO.guardF rfl rfl rfl rfl ?_
        refine GoO.pure (ps_pickT rfl rfl rfl) ?_
        refine GoO.pure (ps_move rfl rfl) ?_
        refine GoO.guardF rfl rfl rfl rfl ?_
        refine GoO.guardF rfl rfl rfl rfl ?_
        refine GoO.guardF rfl rfl rfl rfl ?_
        refine GoO.guardF rfl rfl rfl rfl ?_
        refine GoO.guardF rfl rfl rfl rfl ?_
        refine GoO.pure (ps_pickT rfl rfl rfl) ?_
        refine GoO.nil ?_
        refine GoK.code ?_
        refine GoC.condT rfl ?_
        refine GoC.seq ?_
        refine GoC.region ?_
        refine GoO.pure (ps_assign rfl rfl) ?_
        refine GoO.nil ?_
        refine GoK.code ?_
        refine GoC.ret1 (H' := []) Try.results4 (ResD.tmp rfl) (by exact (Take.nil _)) ?_
        · exfalso; have k1 := hf.ks; have k2 := hf.fs; first | omega | simp_all
    · skip
      refine GoO.guardF rfl rfl rfl rfl ?_
      refine GoO.guardF rfl rfl rfl rfl ?_
      refine GoO.guardF rfl rfl rfl rfl ?_
      refine GoO.guardF rfl rfl rfl rfl ?_
      refine GoO.pure (ps_pickT rfl rfl rfl) ?_
      refine GoO.pure (ps_move rfl rfl) ?_
      refine GoO.guardF rfl rfl rfl rfl ?_
      refine GoO.guardF rfl rfl rfl rfl ?_
      refine GoO.pure (ps_pickT rfl rfl rfl) ?_
      refine GoO.pure (ps_move rfl rfl) ?_
      refine GoO.guardF rfl rfl rfl rfl ?_
      refine GoO.guardF rfl rfl rfl rfl ?_
      refine GoO.guardF rfl rfl rfl rfl ?_
      refine GoO.guardF rfl rfl rfl rfl ?_
      refine GoO.pure (ps_pickT rfl rfl rfl) ?_
      refine GoO.pure (ps_move rfl rfl) ?_
      refine GoO.guardF rfl rfl rfl rfl ?_
      refine GoO.guardF rfl rfl rfl rfl ?_
      refine GoO.guardF rfl rfl rfl rfl ?_
      refine GoO.guardF rfl rfl rfl rfl ?_
      refine GoO.guardF rfl rfl rfl rfl ?_
      refine GoO.pure (ps_pickT rfl rfl rfl) ?_
      refine GoO.pure (ps_move rfl rfl) ?_
      refine GoO.guardF rfl rfl rfl rfl ?_
      refine GoO.guardF rfl rfl rfl rfl ?_
      refine GoO.guardF rfl rfl rfl rfl ?_
      refine GoO.guardF rfl rfl rfl rfl ?_
      refine GoO.guardF rfl rfl rfl rfl ?_
      refine GoO.pure (ps_pickT rfl rfl rfl) ?_
      refine GoO.nil ?_
      refine GoK.code ?_
      refine GoC.condT rfl ?_
      refine GoC.seq ?_
      refine GoC.region ?_
      refine GoO.pure (ps_assign rfl rfl) ?_
      refine GoO.nil ?_
      refine GoK.code ?_
      refine GoC.ret1 (H' := []) Try.results4 (ResD.tmp rfl) (by exact (Take.nil _)) ?_
      · exfalso; have k1 := hf.ks; have k2 := hf.fs; first | omega | simp_all

end Go.Proofs.Ytmgldjkgneiejaa
