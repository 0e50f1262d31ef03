/- What the functions of sloop compute, by walks through their text. -/
import Derived.Test.YtmgldjkgneiejaaTys
import Derived.Test.YtmgldjkgneiejaaDat
import Derived.Test.YtmgldjkgneiejaaWay
import Derived.Test.YtmgldjkgneiejaaKeep
import Derived.Test.YtmgldjkgneiejaaFrame
namespace Go.Proofs.Ytmgldjkgneiejaa
open Go Go.Proofs.Ytmgldjkgneiejaa.Sx
set_option linter.unusedVariables false

theorem relaxStep_false {l : List Arc} : ∀ {s : RS}, s.2.2 = false → (l.foldl relaxStep s).2.2 = false := by
  induction l with
  | nil => intro s h; exact h
  | cons a l ih =>
    intro s h
    rw [List.foldl_cons]
    apply ih
    unfold relaxStep
    split
    · rfl
    · exact h
theorem pass_still {l : List Arc} : ∀ {far : List Int} {known : List Bool}, (relaxPass l (far, known, true)).2.2 = true →
    relaxPass l (far, known, true) = (far, known, true) ∧ ∀ a, a ∈ l → known.getD a.f.toNat false = true → known.getD a.t.toNat false = true ∧ far.getD a.t.toNat 0 ≤ far.getD a.f.toNat 0 + a.c := by
  induction l with
  | nil => intro far known _; exact ⟨rfl, fun a h => by cases h⟩
  | cons a l ih =>
    intro far known h
    unfold relaxPass at h ih ⊢
    rw [List.foldl_cons] at h ⊢
    by_cases hc : known.getD a.f.toNat false = true ∧ (known.getD a.t.toNat false = false ∨ far.getD a.f.toNat 0 + a.c < far.getD a.t.toNat 0)
    · rw [relaxStep, if_pos hc, relaxStep_false rfl] at h
      cases h
    · rw [relaxStep, if_neg hc] at h ⊢
      obtain ⟨h1, h2⟩ := ih h
      refine ⟨h1, fun b hb hk => ?_⟩
      rcases List.mem_cons.1 hb with rfl | hb
      · refine ⟨?_, ?_⟩
        · cases hkt : known.getD b.t.toNat false with
          | true => rfl
          | false => exact absurd ⟨hk, .inl hkt⟩ hc
        · exact Int.not_lt.1 fun hlt => hc ⟨hk, .inr hlt⟩
      · exact h2 b hb hk
/-- Where it comes to an end, no arc makes anything shorter. -/
theorem relaxN_done {l : List Arc} : ∀ (n : Nat) {far : List Int} {known : List Bool}, (relaxN l n far known).1 = true →
    ∀ a, a ∈ l → (relaxN l n far known).2.2.getD a.f.toNat false = true → (relaxN l n far known).2.2.getD a.t.toNat false = true ∧ (relaxN l n far known).2.1.getD a.t.toNat 0 ≤ (relaxN l n far known).2.1.getD a.f.toNat 0 + a.c := by
  intro n
  induction n with
  | zero => intro far known h; cases h
  | succ n ih =>
    intro far known h
    rw [relaxN] at h ⊢
    by_cases hs : (relaxPass l (far, known, true)).2.2 = true
    · rw [if_pos hs]
      obtain ⟨h1, h2⟩ := pass_still hs
      simp only [h1]
      exact h2
    · rw [if_neg hs] at h ⊢
      exact ih h
theorem step_known {s : RS} {a : Arc} {i : Nat} (h : s.2.1.getD i false = true) : (relaxStep s a).2.1.getD i false = true := by
  unfold relaxStep
  split
  · simp only [List.getD_eq_getElem?_getD, List.getElem?_set] at h ⊢
    split
    · split
      · rfl
      · rename_i h1 h2
        rw [List.getElem?_eq_none (by omega)] at h
        cases h
    · exact h
  · exact h
theorem pass_known {l : List Arc} {i : Nat} : ∀ {s : RS}, s.2.1.getD i false = true → (relaxPass l s).2.1.getD i false = true := by
  induction l with
  | nil => intro s h; exact h
  | cons a l ih => intro s h; exact ih (s := relaxStep s a) (step_known h)
theorem relaxN_known {l : List Arc} {i : Nat} : ∀ (n : Nat) {far : List Int} {known : List Bool}, known.getD i false = true → (relaxN l n far known).2.2.getD i false = true := by
  intro n
  induction n with
  | zero => intro far known h; exact h
  | succ n ih =>
    intro far known h
    rw [relaxN]
    have h1 : (relaxPass l (far, known, true)).2.1.getD i false = true := pass_known h
    split
    · exact h1
    · exact ih h1
theorem heights_ok {g : Graph} (h : (heightsF g).1 = 0) : Ok g ∧ (heightsF g).2.length = g.n.toNat ∧ ∀ a, a ∈ g.as → (heightsF g).2.getD a.t.toNat 0 ≤ (heightsF g).2.getD a.f.toNat 0 + a.c := by
  by_cases h1 : checkF g (-10000) = 0
  · have hg := (checkF_ok g).1 h1
    have h1' : ¬ checkF g (-10000) ≠ 0 := fun e => e h1
    cases h2 : (relaxN g.as (g.n.toNat + 1) (all0 g) (allT g)).1 with
    | false => rw [heightsF_no h1' h2] at h; cases h
    | true =>
      refine ⟨hg, heightsF_len h1' h2, fun a ha => ?_⟩
      rw [heightsF_yes h1' h2]
      refine (relaxN_done _ h2 a ha (relaxN_known _ ?_)).2
      have h3 := hg.arc a ha
      have := h3.f0; have := h3.f1
      rw [allT, List.getD_eq_getElem?_getD, List.getElem?_replicate, if_pos (by omega)]
      rfl
  · rw [heightsF, if_pos h1] at h
    exact absurd h h1
theorem heights_loop : heightsF ⟨2, [⟨0, 1, -2⟩, ⟨1, 0, 1⟩]⟩ = (6, []) := by decide
set_option maxRecDepth 100000 in
set_option maxHeartbeats 400000 in
theorem shortLoop_spec (g : Graph) (steps : List Int) (_ : GIn g) (hs1 : (∀ x, x ∈ steps → InI x) ∧ steps.length ≤ maxLen) : Does Try.prog 3 [graphD g, intsD steps] [] (fun d H => d = .bo true ∧ H = []) := by
  have hs := hs1.1
  refine Does.intro Try.func3 rfl Try.ntmps3 rfl fun w0 I0 => ?_
  refine GoC.seq ?_
  refine GoC.region ?_
  refine GoO.effB (ef_boxAg rfl rfl) (fun β1 => ?_)
  refine GoO.pure (ps_assign rfl rfl) ?_
  refine GoO.nil ?_
  refine GoK.code ?_
  refine GoC.seq ?_
  refine GoC.region ?_
  refine GoO.pure (ps_buildA (by exact (Parts.cons _ _ _ _ _ _ _ _ ⟨rfl, rfl⟩ (by first | exact Part.one _ rfl rfl | exact Part.ag _ _ rfl) (by rfl) (by rfl) (Parts.cons _ _ _ _ _ _ _ _ ⟨rfl, rfl⟩ (by first | exact Part.one _ rfl rfl | exact Part.ag _ _ rfl) (by rfl) (by rfl) (Parts.cons _ _ _ _ _ _ _ _ ⟨rfl, rfl⟩ (by first | exact Part.one _ rfl rfl | exact Part.ag _ _ rfl) (by rfl) (by rfl) (Parts.nil _))))) rfl) ?_
  refine GoO.pure (ps_buildA (by exact (Parts.cons _ _ _ _ _ _ _ _ ⟨rfl, rfl⟩ (by first | exact Part.one _ rfl rfl | exact Part.ag _ _ rfl) (by rfl) (by rfl) (Parts.cons _ _ _ _ _ _ _ _ ⟨rfl, rfl⟩ (by first | exact Part.one _ rfl rfl | exact Part.ag _ _ rfl) (by rfl) (by rfl) (Parts.cons _ _ _ _ _ _ _ _ ⟨rfl, rfl⟩ (by first | exact Part.one _ rfl rfl | exact Part.ag _ _ rfl) (by rfl) (by rfl) (Parts.nil _))))) rfl) ?_
  refine GoO.effB (ef_buildSlice (arcs [⟨0, 1, -2⟩, ⟨1, 0, 1⟩]) rfl (by exact (Parts.cons _ _ _ _ _ _ _ _ ⟨rfl, rfl⟩ (by first | exact Part.one _ rfl rfl | exact Part.ag _ _ rfl) (by rfl) (by rfl) (Parts.cons _ _ _ _ _ _ _ _ ⟨rfl, rfl⟩ (by first | exact Part.one _ rfl rfl | exact Part.ag _ _ rfl) (by rfl) (by rfl) (Parts.nil _)))) rfl rfl rfl rfl) (fun β5 => ?_)
  refine GoO.effC (ef_call rfl (by first | exact (Take.nil _) | exact (Take.cons _ _ _ _ _ (by first | exact Rem.p0 | exact Rem.p1 | exact Rem.p2 | exact Rem.p3 | exact Rem.p4 | exact Rem.p5 | exact Rem.p6 | exact Rem.p7 | exact Rem.p8 | exact Rem.p9 | exact Rem.p10 | exact Rem.p11 | exact Rem.p12 | exact Rem.p13) (Take.nil _)) | exact (Take.cons _ _ _ _ _ (by first | exact Rem.p0 | exact Rem.p1 | exact Rem.p2 | exact Rem.p3 | exact Rem.p4 | exact Rem.p5 | exact Rem.p6 | exact Rem.p7 | exact Rem.p8 | exact Rem.p9 | exact Rem.p10 | exact Rem.p11 | exact Rem.p12 | exact Rem.p13) (Take.cons _ _ _ _ _ (by first | exact Rem.p0 | exact Rem.p1 | exact Rem.p2 | exact Rem.p3 | exact Rem.p4 | exact Rem.p5 | exact Rem.p6 | exact Rem.p7 | exact Rem.p8 | exact Rem.p9 | exact Rem.p10 | exact Rem.p11 | exact Rem.p12 | exact Rem.p13) (Take.nil _))) | exact (Take.cons _ _ _ _ _ (by first | exact Rem.p0 | exact Rem.p1 | exact Rem.p2 | exact Rem.p3 | exact Rem.p4 | exact Rem.p5 | exact Rem.p6 | exact Rem.p7 | exact Rem.p8 | exact Rem.p9 | exact Rem.p10 | exact Rem.p11 | exact Rem.p12 | exact Rem.p13) (Take.cons _ _ _ _ _ (by first | exact Rem.p0 | exact Rem.p1 | exact Rem.p2 | exact Rem.p3 | exact Rem.p4 | exact Rem.p5 | exact Rem.p6 | exact Rem.p7 | exact Rem.p8 | exact Rem.p9 | exact Rem.p10 | exact Rem.p11 | exact Rem.p12 | exact Rem.p13) (Take.cons _ _ _ _ _ (by first | exact Rem.p0 | exact Rem.p1 | exact Rem.p2 | exact Rem.p3 | exact Rem.p4 | exact Rem.p5 | exact Rem.p6 | exact Rem.p7 | exact Rem.p8 | exact Rem.p9 | exact Rem.p10 | exact Rem.p11 | exact Rem.p12 | exact Rem.p13) (Take.nil _)))) | exact (Take.cons _ _ _ _ _ (by first | exact Rem.p0 | exact Rem.p1 | exact Rem.p2 | exact Rem.p3 | exact Rem.p4 | exact Rem.p5 | exact Rem.p6 | exact Rem.p7 | exact Rem.p8 | exact Rem.p9 | exact Rem.p10 | exact Rem.p11 | exact Rem.p12 | exact Rem.p13) (Take.cons _ _ _ _ _ (by first | exact Rem.p0 | exact Rem.p1 | exact Rem.p2 | exact Rem.p3 | exact Rem.p4 | exact Rem.p5 | exact Rem.p6 | exact Rem.p7 | exact Rem.p8 | exact Rem.p9 | exact Rem.p10 | exact Rem.p11 | exact Rem.p12 | exact Rem.p13) (Take.cons _ _ _ _ _ (by first | exact Rem.p0 | exact Rem.p1 | exact Rem.p2 | exact Rem.p3 | exact Rem.p4 | exact Rem.p5 | exact Rem.p6 | exact Rem.p7 | exact Rem.p8 | exact Rem.p9 | exact Rem.p10 | exact Rem.p11 | exact Rem.p12 | exact Rem.p13) (Take.cons _ _ _ _ _ (by first | exact Rem.p0 | exact Rem.p1 | exact Rem.p2 | exact Rem.p3 | exact Rem.p4 | exact Rem.p5 | exact Rem.p6 | exact Rem.p7 | exact Rem.p8 | exact Rem.p9 | exact Rem.p10 | exact Rem.p11 | exact Rem.p12 | exact Rem.p13) (Take.nil _)))))) (by exact LendL.cons (by first | exact Lend.refl _ _ | exact Lend.all' (by first | exact At.p0 | exact At.p1 | exact At.p2 | exact At.p3 | exact At.p4 | exact At.p5 | exact At.p6 | exact At.p7 | exact At.p8 | exact At.p9 | exact At.p10 | exact At.p11 | exact At.p12 | exact At.p13) (by rfl) (by rfl) | exact Lend.agL (by repeat (first | exact LendL.nil | refine LendL.cons (by first | exact Lend.refl _ _ | exact Lend.all' (by first | exact At.p0 | exact At.p1 | exact At.p2 | exact At.p3 | exact At.p4 | exact At.p5 | exact At.p6 | exact At.p7 | exact At.p8 | exact At.p9 | exact At.p10 | exact At.p11 | exact At.p12 | exact At.p13) (by rfl) (by rfl)) ?_))) (LendL.nil)) (arcs_spec [⟨0, 1, -2⟩, ⟨1, 0, 1⟩] (by decide)) rfl) (fun r H hp => ?_)
  obtain ⟨βa, rfl, rfl⟩ := hp
  refine GoO.pure (ps_build (by exact (Parts.cons _ _ _ _ _ _ _ _ FdP.of (by first | exact Part.one _ rfl rfl | exact Part.ag _ _ rfl) (by rfl) (by rfl) (Parts.cons _ _ _ _ _ _ _ _ FdP.of (by first | exact Part.one _ rfl rfl | exact Part.ag _ _ rfl) (by rfl) (by rfl) (Parts.nil _)))) rfl) ?_
  refine GoO.effB (ef_alloc rfl) (fun β8 => ?_)
  refine GoO.eff1 (ef_storeAg rfl rfl (by first | exact At.p0 | exact At.p1 | exact At.p2 | exact At.p3 | exact At.p4 | exact At.p5 | exact At.p6 | exact At.p7 | exact At.p8 | exact At.p9 | exact At.p10 | exact At.p11 | exact At.p12 | exact At.p13) upd_whole Nat.zero_lt_one rfl) ?_
  refine GoO.nil ?_
  refine GoK.code ?_
  refine GoC.seq ?_
  refine GoC.seq ?_
  refine GoC.region ?_
  first | refine GoO.pure (ps_loadAg rfl (by first | exact At.p0 | exact At.p1 | exact At.p2 | exact At.p3 | exact At.p4 | exact At.p5 | exact At.p6 | exact At.p7 | exact At.p8 | exact At.p9 | exact At.p10 | exact At.p11 | exact At.p12 | exact At.p13) (by first | exact At.p0 | exact At.p1 | exact At.p2 | exact At.p3 | exact At.p4 | exact At.p5 | exact At.p6 | exact At.p7 | exact At.p8 | exact At.p9 | exact At.p10 | exact At.p11 | exact At.p12 | exact At.p13) ?_ rfl rfl) ?_ | refine GoO.pure (ps_loadAgR rfl ?_ rfl rfl) ?_
  · first | exact Nat.zero_lt_one | assumption | omega | exact InI.of (by omega) (by omega) | (simp only [ints_len, bools_len, st1_len, arcs_len, lits_len, List.length_set, List.length_append, List.length_cons, List.length_nil, List.length_replicate]; omega)
  refine GoO.effC (ef_call rfl (by first | exact (Take.nil _) | exact (Take.cons _ _ _ _ _ (by first | exact Rem.p0 | exact Rem.p1 | exact Rem.p2 | exact Rem.p3 | exact Rem.p4 | exact Rem.p5 | exact Rem.p6 | exact Rem.p7 | exact Rem.p8 | exact Rem.p9 | exact Rem.p10 | exact Rem.p11 | exact Rem.p12 | exact Rem.p13) (Take.nil _)) | exact (Take.cons _ _ _ _ _ (by first | exact Rem.p0 | exact Rem.p1 | exact Rem.p2 | exact Rem.p3 | exact Rem.p4 | exact Rem.p5 | exact Rem.p6 | exact Rem.p7 | exact Rem.p8 | exact Rem.p9 | exact Rem.p10 | exact Rem.p11 | exact Rem.p12 | exact Rem.p13) (Take.cons _ _ _ _ _ (by first | exact Rem.p0 | exact Rem.p1 | exact Rem.p2 | exact Rem.p3 | exact Rem.p4 | exact Rem.p5 | exact Rem.p6 | exact Rem.p7 | exact Rem.p8 | exact Rem.p9 | exact Rem.p10 | exact Rem.p11 | exact Rem.p12 | exact Rem.p13) (Take.nil _))) | exact (Take.cons _ _ _ _ _ (by first | exact Rem.p0 | exact Rem.p1 | exact Rem.p2 | exact Rem.p3 | exact Rem.p4 | exact Rem.p5 | exact Rem.p6 | exact Rem.p7 | exact Rem.p8 | exact Rem.p9 | exact Rem.p10 | exact Rem.p11 | exact Rem.p12 | exact Rem.p13) (Take.cons _ _ _ _ _ (by first | exact Rem.p0 | exact Rem.p1 | exact Rem.p2 | exact Rem.p3 | exact Rem.p4 | exact Rem.p5 | exact Rem.p6 | exact Rem.p7 | exact Rem.p8 | exact Rem.p9 | exact Rem.p10 | exact Rem.p11 | exact Rem.p12 | exact Rem.p13) (Take.cons _ _ _ _ _ (by first | exact Rem.p0 | exact Rem.p1 | exact Rem.p2 | exact Rem.p3 | exact Rem.p4 | exact Rem.p5 | exact Rem.p6 | exact Rem.p7 | exact Rem.p8 | exact Rem.p9 | exact Rem.p10 | exact Rem.p11 | exact Rem.p12 | exact Rem.p13) (Take.nil _)))) | exact (Take.cons _ _ _ _ _ (by first | exact Rem.p0 | exact Rem.p1 | exact Rem.p2 | exact Rem.p3 | exact Rem.p4 | exact Rem.p5 | exact Rem.p6 | exact Rem.p7 | exact Rem.p8 | exact Rem.p9 | exact Rem.p10 | exact Rem.p11 | exact Rem.p12 | exact Rem.p13) (Take.cons _ _ _ _ _ (by first | exact Rem.p0 | exact Rem.p1 | exact Rem.p2 | exact Rem.p3 | exact Rem.p4 | exact Rem.p5 | exact Rem.p6 | exact Rem.p7 | exact Rem.p8 | exact Rem.p9 | exact Rem.p10 | exact Rem.p11 | exact Rem.p12 | exact Rem.p13) (Take.cons _ _ _ _ _ (by first | exact Rem.p0 | exact Rem.p1 | exact Rem.p2 | exact Rem.p3 | exact Rem.p4 | exact Rem.p5 | exact Rem.p6 | exact Rem.p7 | exact Rem.p8 | exact Rem.p9 | exact Rem.p10 | exact Rem.p11 | exact Rem.p12 | exact Rem.p13) (Take.cons _ _ _ _ _ (by first | exact Rem.p0 | exact Rem.p1 | exact Rem.p2 | exact Rem.p3 | exact Rem.p4 | exact Rem.p5 | exact Rem.p6 | exact Rem.p7 | exact Rem.p8 | exact Rem.p9 | exact Rem.p10 | exact Rem.p11 | exact Rem.p12 | exact Rem.p13) (Take.nil _)))))) (by exact LendL.cons (by first | exact Lend.refl _ _ | exact Lend.all' (by first | exact At.p0 | exact At.p1 | exact At.p2 | exact At.p3 | exact At.p4 | exact At.p5 | exact At.p6 | exact At.p7 | exact At.p8 | exact At.p9 | exact At.p10 | exact At.p11 | exact At.p12 | exact At.p13) (by rfl) (by rfl) | exact Lend.agL (by repeat (first | exact LendL.nil | refine LendL.cons (by first | exact Lend.refl _ _ | exact Lend.all' (by first | exact At.p0 | exact At.p1 | exact At.p2 | exact At.p3 | exact At.p4 | exact At.p5 | exact At.p6 | exact At.p7 | exact At.p8 | exact At.p9 | exact At.p10 | exact At.p11 | exact At.p12 | exact At.p13) (by rfl) (by rfl)) ?_))) (LendL.nil)) (heights_spec ⟨2, [⟨0, 1, -2⟩, ⟨1, 0, 1⟩]⟩) rfl) (fun r H hp => ?_)
  obtain ⟨βb, rfl, rfl⟩ := hp
  refine GoO.pure (ps_move rfl rfl) ?_
  refine GoO.pure (ps_extract rfl rfl rfl) ?_
  refine GoO.pure (ps_extract rfl rfl rfl) ?_
  refine GoO.pure (ps_assign rfl rfl) ?_
  refine GoO.pure (ps_assign rfl rfl) ?_
  refine GoO.nil ?_
  refine GoK.code ?_
  refine GoC.seq ?_
  refine GoC.region ?_
  refine GoO.pure (ps_move rfl rfl) ?_
  first | refine GoO.pure (ps_neq rfl rfl rfl) ?_ | refine GoO.pure (ps_neqB rfl rfl rfl) ?_ | refine GoO.pure (ps_neqA rfl rfl rfl rfl) ?_
  refine GoO.nil ?_
  refine GoK.code ?_
  first | refine GoC.condD rfl (fun h19 => ?_) (fun h19 => ?_) | refine GoC.cond rfl (fun h19 => ?_) (fun h19 => ?_)
  · skip
    refine GoC.seq ?_
    refine GoC.region ?_
    refine GoO.pure (ps_assign rfl rfl) ?_
    refine GoO.nil ?_
    refine GoK.code ?_
    refine GoC.ret1 (H' := []) Try.results3 (ResD.tmp rfl) (by exact (Take.nil _)) ?_
    · exact absurd (by rw [heights_loop]) ‹(heightsF _).1 ≠ 6›
  · skip
    refine GoC.skip ?_
    refine GoK.code ?_
    refine GoC.seq ?_
    refine GoC.region ?_
    first | refine GoO.pure (ps_loadAg rfl (by first | exact At.p0 | exact At.p1 | exact At.p2 | exact At.p3 | exact At.p4 | exact At.p5 | exact At.p6 | exact At.p7 | exact At.p8 | exact At.p9 | exact At.p10 | exact At.p11 | exact At.p12 | exact At.p13) (by first | exact At.p0 | exact At.p1 | exact At.p2 | exact At.p3 | exact At.p4 | exact At.p5 | exact At.p6 | exact At.p7 | exact At.p8 | exact At.p9 | exact At.p10 | exact At.p11 | exact At.p12 | exact At.p13) ?_ rfl rfl) ?_ | refine GoO.pure (ps_loadAgR rfl ?_ rfl rfl) ?_
    · first | exact Nat.zero_lt_one | assumption | omega | exact InI.of (by omega) (by omega) | (simp only [ints_len, bools_len, st1_len, arcs_len, lits_len, List.length_set, List.length_append, List.length_cons, List.length_nil, List.length_replicate]; omega)
    refine GoO.effC (ef_call rfl (by first | exact (Take.nil _) | exact (Take.cons _ _ _ _ _ (by first | exact Rem.p0 | exact Rem.p1 | exact Rem.p2 | exact Rem.p3 | exact Rem.p4 | exact Rem.p5 | exact Rem.p6 | exact Rem.p7 | exact Rem.p8 | exact Rem.p9 | exact Rem.p10 | exact Rem.p11 | exact Rem.p12 | exact Rem.p13) (Take.nil _)) | exact (Take.cons _ _ _ _ _ (by first | exact Rem.p0 | exact Rem.p1 | exact Rem.p2 | exact Rem.p3 | exact Rem.p4 | exact Rem.p5 | exact Rem.p6 | exact Rem.p7 | exact Rem.p8 | exact Rem.p9 | exact Rem.p10 | exact Rem.p11 | exact Rem.p12 | exact Rem.p13) (Take.cons _ _ _ _ _ (by first | exact Rem.p0 | exact Rem.p1 | exact Rem.p2 | exact Rem.p3 | exact Rem.p4 | exact Rem.p5 | exact Rem.p6 | exact Rem.p7 | exact Rem.p8 | exact Rem.p9 | exact Rem.p10 | exact Rem.p11 | exact Rem.p12 | exact Rem.p13) (Take.nil _))) | exact (Take.cons _ _ _ _ _ (by first | exact Rem.p0 | exact Rem.p1 | exact Rem.p2 | exact Rem.p3 | exact Rem.p4 | exact Rem.p5 | exact Rem.p6 | exact Rem.p7 | exact Rem.p8 | exact Rem.p9 | exact Rem.p10 | exact Rem.p11 | exact Rem.p12 | exact Rem.p13) (Take.cons _ _ _ _ _ (by first | exact Rem.p0 | exact Rem.p1 | exact Rem.p2 | exact Rem.p3 | exact Rem.p4 | exact Rem.p5 | exact Rem.p6 | exact Rem.p7 | exact Rem.p8 | exact Rem.p9 | exact Rem.p10 | exact Rem.p11 | exact Rem.p12 | exact Rem.p13) (Take.cons _ _ _ _ _ (by first | exact Rem.p0 | exact Rem.p1 | exact Rem.p2 | exact Rem.p3 | exact Rem.p4 | exact Rem.p5 | exact Rem.p6 | exact Rem.p7 | exact Rem.p8 | exact Rem.p9 | exact Rem.p10 | exact Rem.p11 | exact Rem.p12 | exact Rem.p13) (Take.nil _)))) | exact (Take.cons _ _ _ _ _ (by first | exact Rem.p0 | exact Rem.p1 | exact Rem.p2 | exact Rem.p3 | exact Rem.p4 | exact Rem.p5 | exact Rem.p6 | exact Rem.p7 | exact Rem.p8 | exact Rem.p9 | exact Rem.p10 | exact Rem.p11 | exact Rem.p12 | exact Rem.p13) (Take.cons _ _ _ _ _ (by first | exact Rem.p0 | exact Rem.p1 | exact Rem.p2 | exact Rem.p3 | exact Rem.p4 | exact Rem.p5 | exact Rem.p6 | exact Rem.p7 | exact Rem.p8 | exact Rem.p9 | exact Rem.p10 | exact Rem.p11 | exact Rem.p12 | exact Rem.p13) (Take.cons _ _ _ _ _ (by first | exact Rem.p0 | exact Rem.p1 | exact Rem.p2 | exact Rem.p3 | exact Rem.p4 | exact Rem.p5 | exact Rem.p6 | exact Rem.p7 | exact Rem.p8 | exact Rem.p9 | exact Rem.p10 | exact Rem.p11 | exact Rem.p12 | exact Rem.p13) (Take.cons _ _ _ _ _ (by first | exact Rem.p0 | exact Rem.p1 | exact Rem.p2 | exact Rem.p3 | exact Rem.p4 | exact Rem.p5 | exact Rem.p6 | exact Rem.p7 | exact Rem.p8 | exact Rem.p9 | exact Rem.p10 | exact Rem.p11 | exact Rem.p12 | exact Rem.p13) (Take.nil _)))))) (by exact LendL.cons (by first | exact Lend.refl _ _ | exact Lend.all' (by first | exact At.p0 | exact At.p1 | exact At.p2 | exact At.p3 | exact At.p4 | exact At.p5 | exact At.p6 | exact At.p7 | exact At.p8 | exact At.p9 | exact At.p10 | exact At.p11 | exact At.p12 | exact At.p13) (by rfl) (by rfl) | exact Lend.agL (by repeat (first | exact LendL.nil | refine LendL.cons (by first | exact Lend.refl _ _ | exact Lend.all' (by first | exact At.p0 | exact At.p1 | exact At.p2 | exact At.p3 | exact At.p4 | exact At.p5 | exact At.p6 | exact At.p7 | exact At.p8 | exact At.p9 | exact At.p10 | exact At.p11 | exact At.p12 | exact At.p13) (by rfl) (by rfl)) ?_))) (LendL.nil)) (heights_spec g) rfl) (fun r H hp => ?_)
    obtain ⟨βh, rfl, rfl⟩ := hp
    refine GoO.pure (ps_move rfl rfl) ?_
    refine GoO.pure (ps_extract rfl rfl rfl) ?_
    refine GoO.pure (ps_extract rfl rfl rfl) ?_
    refine GoO.pure (ps_assign rfl rfl) ?_
    refine GoO.pure (ps_assign rfl rfl) ?_
    refine GoO.nil ?_
    refine GoK.code ?_
    refine GoC.seq ?_
    refine GoC.seq ?_
    refine GoC.region ?_
    refine GoO.pure (ps_move rfl rfl) ?_
    first | refine GoO.pure (ps_neq rfl rfl rfl) ?_ | refine GoO.pure (ps_neqB rfl rfl rfl) ?_ | refine GoO.pure (ps_neqA rfl rfl rfl rfl) ?_
    refine GoO.pure (ps_move rfl rfl) ?_
    first | refine GoO.guardE rfl rfl rfl rfl (fun h31 => ?_) (fun h31 => ?_) | refine GoO.guard rfl rfl rfl rfl (fun h31 => ?_) (fun h31 => ?_)
    · skip
      first | refine GoO.pure (ps_fieldAddr rfl rfl) ?_ | refine GoO.pure (ps_fieldAddrR rfl rfl) ?_
      refine GoO.guardT rfl rfl rfl ?_
      first | refine GoO.pure (ps_load rfl (by first | exact At.p0 | exact At.p1 | exact At.p2 | exact At.p3 | exact At.p4 | exact At.p5 | exact At.p6 | exact At.p7 | exact At.p8 | exact At.p9 | exact At.p10 | exact At.p11 | exact At.p12 | exact At.p13) (by first | exact At.p0 | exact At.p1 | exact At.p2 | exact At.p3 | exact At.p4 | exact At.p5 | exact At.p6 | exact At.p7 | exact At.p8 | exact At.p9 | exact At.p10 | exact At.p11 | exact At.p12 | exact At.p13) ?_ rfl rfl) ?_ | refine GoO.pure (ps_loadR rfl ?_ rfl rfl) ?_
      · first | exact Nat.zero_lt_one | assumption | omega | exact InI.of (by omega) (by omega) | (simp only [ints_len, bools_len, st1_len, arcs_len, lits_len, List.length_set, List.length_append, List.length_cons, List.length_nil, List.length_replicate]; omega)
      refine GoO.guardT rfl rfl rfl ?_
      refine GoO.pure (ps_len rfl (by constructor) rfl) ?_
      refine GoO.guardT rfl rfl rfl ?_
      first | refine GoO.pure (ps_eql rfl rfl rfl) ?_ | refine GoO.pure (ps_eqlB rfl rfl rfl) ?_ | refine GoO.pure (ps_eqlA rfl rfl rfl rfl) ?_
      refine GoO.pure (ps_pickF rfl rfl rfl) ?_
      refine GoO.pure (ps_move rfl rfl) ?_
      first | refine GoO.guardE rfl rfl rfl rfl (fun h38 => ?_) (fun h38 => ?_) | refine GoO.guard rfl rfl rfl rfl (fun h38 => ?_) (fun h38 => ?_)
      · skip
        refine GoO.pure (ps_move rfl rfl) ?_
        refine GoO.guardT rfl rfl rfl ?_
        refine GoO.pure (ps_len rfl (by constructor) rfl) ?_
        refine GoO.guardT rfl rfl rfl ?_
        refine GoO.pure (ps_gtr rfl rfl rfl) ?_
        refine GoO.pure (ps_pickF rfl rfl rfl) ?_
        refine GoO.nil ?_
        refine GoK.code ?_
        first | refine GoC.condD rfl (fun h43 => ?_) (fun h43 => ?_) | refine GoC.cond rfl (fun h43 => ?_) (fun h43 => ?_)
        · skip
          refine GoC.seq ?_
          refine GoC.region ?_
          refine GoO.pure (ps_move rfl rfl) ?_
          first | refine GoO.pure (ps_neq rfl rfl rfl) ?_ | refine GoO.pure (ps_neqB rfl rfl rfl) ?_ | refine GoO.pure (ps_neqA rfl rfl rfl rfl) ?_
          refine GoO.pure (ps_move rfl rfl) ?_
          first | refine GoO.guardE rfl rfl rfl rfl (fun h47 => ?_) (fun h47 => ?_) | refine GoO.guard rfl rfl rfl rfl (fun h47 => ?_) (fun h47 => ?_)
          · skip
            refine GoO.pure (ps_move rfl rfl) ?_
            refine GoO.guardT rfl rfl rfl ?_
            refine GoO.pure (ps_len rfl (by constructor) rfl) ?_
            refine GoO.guardT rfl rfl rfl ?_
            first | refine GoO.pure (ps_fieldAddr rfl rfl) ?_ | refine GoO.pure (ps_fieldAddrR rfl rfl) ?_
            refine GoO.guardT rfl rfl rfl ?_
            first | refine GoO.pure (ps_load rfl (by first | exact At.p0 | exact At.p1 | exact At.p2 | exact At.p3 | exact At.p4 | exact At.p5 | exact At.p6 | exact At.p7 | exact At.p8 | exact At.p9 | exact At.p10 | exact At.p11 | exact At.p12 | exact At.p13) (by first | exact At.p0 | exact At.p1 | exact At.p2 | exact At.p3 | exact At.p4 | exact At.p5 | exact At.p6 | exact At.p7 | exact At.p8 | exact At.p9 | exact At.p10 | exact At.p11 | exact At.p12 | exact At.p13) ?_ rfl rfl) ?_ | refine GoO.pure (ps_loadR rfl ?_ rfl rfl) ?_
            · first | exact Nat.zero_lt_one | assumption | omega | exact InI.of (by omega) (by omega) | (simp only [ints_len, bools_len, st1_len, arcs_len, lits_len, List.length_set, List.length_append, List.length_cons, List.length_nil, List.length_replicate]; omega)
            refine GoO.guardT rfl rfl rfl ?_
            first | refine GoO.pure (ps_eql rfl rfl rfl) ?_ | refine GoO.pure (ps_eqlB rfl rfl rfl) ?_ | refine GoO.pure (ps_eqlA rfl rfl rfl rfl) ?_
            refine GoO.pure (ps_pickF rfl rfl rfl) ?_
            refine GoO.pure (ps_move rfl rfl) ?_
            first | refine GoO.guardE rfl rfl rfl rfl (fun h55 => ?_) (fun h55 => ?_) | refine GoO.guard rfl rfl rfl rfl (fun h55 => ?_) (fun h55 => ?_)
            · skip
              refine GoO.pure (ps_move rfl rfl) ?_
              refine GoO.guardT rfl rfl rfl ?_
              refine GoO.pure (ps_len rfl (by constructor) rfl) ?_
              refine GoO.guardT rfl rfl rfl ?_
              refine GoO.pure (ps_gtr rfl rfl rfl) ?_
              refine GoO.pure (ps_pickF rfl rfl rfl) ?_
              refine GoO.pure (ps_assign rfl rfl) ?_
              refine GoO.nil ?_
              refine GoK.code ?_
              refine GoC.ret1 (H' := []) Try.results3 (ResD.tmp rfl) (by exact (Take.nil _)) ?_
              · refine ⟨?_, rfl⟩; first | rfl | exact bo_true (by omega) | (obtain ⟨hg, hlen, _⟩ := heights_ok (Classical.not_not.1 ‹¬ (heightsF g).1 ≠ 0›); have := hg.n0; omega)
            · skip
              refine GoO.guardF rfl rfl rfl rfl ?_
              refine GoO.guardF rfl rfl rfl rfl ?_
              refine GoO.pure (ps_pickT rfl rfl rfl) ?_
              refine GoO.pure (ps_assign rfl rfl) ?_
              refine GoO.nil ?_
              refine GoK.code ?_
              refine GoC.ret1 (H' := []) Try.results3 (ResD.tmp rfl) (by exact (Take.nil _)) ?_
              · refine ⟨?_, rfl⟩; first | rfl | exact bo_true (by omega) | (obtain ⟨hg, hlen, _⟩ := heights_ok (Classical.not_not.1 ‹¬ (heightsF g).1 ≠ 0›); have := hg.n0; omega)
          · skip
            refine GoO.guardF rfl rfl rfl rfl ?_
            refine GoO.guardF rfl rfl rfl rfl ?_
            refine GoO.guardF rfl rfl rfl rfl ?_
            refine GoO.guardF rfl rfl rfl rfl ?_
            refine GoO.pure (ps_pickT rfl rfl rfl) ?_
            refine GoO.pure (ps_move rfl rfl) ?_
            refine GoO.guardF rfl rfl rfl rfl ?_
            refine GoO.guardF rfl rfl rfl rfl ?_
            refine GoO.guardF rfl rfl rfl rfl ?_
            refine GoO.pure (ps_pickT rfl rfl rfl) ?_
            refine GoO.pure (ps_assign rfl rfl) ?_
            refine GoO.nil ?_
            refine GoK.code ?_
            refine GoC.ret1 (H' := []) Try.results3 (ResD.tmp rfl) (by exact (Take.nil _)) ?_
            · refine ⟨?_, rfl⟩; first | rfl | exact bo_true (by omega) | (obtain ⟨hg, hlen, _⟩ := heights_ok (Classical.not_not.1 ‹¬ (heightsF g).1 ≠ 0›); have := hg.n0; omega)
        · skip
          refine GoC.skip ?_
          refine GoK.code ?_
          refine GoC.seq ?_
          refine GoC.region ?_
          first | refine GoO.pure (ps_fieldAddr rfl rfl) ?_ | refine GoO.pure (ps_fieldAddrR rfl rfl) ?_
          first | refine GoO.pure (ps_load rfl (by first | exact At.p0 | exact At.p1 | exact At.p2 | exact At.p3 | exact At.p4 | exact At.p5 | exact At.p6 | exact At.p7 | exact At.p8 | exact At.p9 | exact At.p10 | exact At.p11 | exact At.p12 | exact At.p13) (by first | exact At.p0 | exact At.p1 | exact At.p2 | exact At.p3 | exact At.p4 | exact At.p5 | exact At.p6 | exact At.p7 | exact At.p8 | exact At.p9 | exact At.p10 | exact At.p11 | exact At.p12 | exact At.p13) ?_ rfl rfl) ?_ | refine GoO.pure (ps_loadR rfl ?_ rfl rfl) ?_
          · first | exact Nat.zero_lt_one | assumption | omega | exact InI.of (by omega) (by omega) | (simp only [ints_len, bools_len, st1_len, arcs_len, lits_len, List.length_set, List.length_append, List.length_cons, List.length_nil, List.length_replicate]; omega)
          first | refine GoO.pure (ps_indexAddr0N rfl rfl ?_ rfl) ?_ | refine GoO.pure (ps_indexAddrRN rfl rfl ?_ rfl) ?_ | refine GoO.pure (ps_indexAddr0 rfl rfl ?_ rfl) ?_ | refine GoO.pure (ps_indexAddrN rfl rfl ?_ rfl) ?_ | refine GoO.pure (ps_indexAddrRN rfl rfl ?_ rfl) ?_ | refine GoO.pure (ps_indexAddr rfl rfl ?_ rfl) ?_ | refine GoO.pure (ps_indexAddrR rfl rfl ?_ rfl) ?_
          · first | exact Nat.zero_lt_one | assumption | omega | exact InI.of (by omega) (by omega) | (simp only [ints_len, bools_len, st1_len, arcs_len, lits_len, List.length_set, List.length_append, List.length_cons, List.length_nil, List.length_replicate]; omega)
          first | refine GoO.pure (ps_fieldAddr rfl rfl) ?_ | refine GoO.pure (ps_fieldAddrR rfl rfl) ?_
          first | refine GoO.pure (ps_load rfl (by first | exact At.p0 | exact At.p1 | exact At.p2 | exact At.p3 | exact At.p4 | exact At.p5 | exact At.p6 | exact At.p7 | exact At.p8 | exact At.p9 | exact At.p10 | exact At.p11 | exact At.p12 | exact At.p13) (by first | exact At.p0 | exact At.p1 | exact At.p2 | exact At.p3 | exact At.p4 | exact At.p5 | exact At.p6 | exact At.p7 | exact At.p8 | exact At.p9 | exact At.p10 | exact At.p11 | exact At.p12 | exact At.p13) ?_ rfl rfl) ?_ | refine GoO.pure (ps_loadR rfl ?_ rfl rfl) ?_
          · first | exact Nat.zero_lt_one | assumption | omega | exact InI.of (by omega) (by omega) | (simp only [ints_len, bools_len, st1_len, arcs_len, lits_len, List.length_set, List.length_append, List.length_cons, List.length_nil, List.length_replicate]; omega)
          refine GoO.pure (ps_assign rfl rfl) ?_
          refine GoO.nil ?_
          refine GoK.code ?_
          refine GoC.seq ?_
          refine GoC.region ?_
          refine GoO.pure (ps_move rfl rfl) ?_
          refine GoO.pure (ps_assign rfl rfl) ?_
          refine GoO.pure (ps_assign rfl rfl) ?_
          refine GoO.nil ?_
          refine GoK.code ?_
          refine GoC.seq ?_
          refine GoC.seq ?_
          refine GoC.region ?_
          refine GoO.pure (ps_move rfl rfl) ?_
          refine GoO.pure (ps_len rfl (by constructor) rfl) ?_
          refine GoO.pure (ps_move rfl rfl) ?_
          refine GoO.nil ?_
          refine GoK.code ?_
          refine GoC.block ?_
          obtain ⟨hg, hlen, hpot⟩ := heights_ok (Classical.not_not.1 ‹¬ (heightsF g).1 ≠ 0›)
          have hal := hg.len
          refine GoC.loopE (σ := Nat × Int × Int) [2, 10, 66, 67] (fun (k, at_, m) => [(68, .i (k : Int)), (11, .i at_), (12, .i m)]) (fun (k, at_, m) => []) (fun n (k, at_, m) => n = steps.length - k ∧ k ≤ steps.length ∧ -(10000 * (k : Int)) ≤ m ∧ m ≤ 10000 * k ∧ (heightsF g).2.getD at_.toNat 0 ≤ (heightsF g).2.getD (g.as.getD 0 ⟨0, 0, 0⟩).f.toNat 0 + m) (steps.length) (0, (g.as.getD 0 ⟨0, 0, 0⟩).f, 0) ?_ (by repeat (first | exact EnvLe.nil | refine EnvLe.cons rfl ?_)) (by exact (Take.nil _)) ?_
          · exact ⟨by omega, by omega, by omega, by omega, by simp⟩
          rintro n ⟨k, at_, m⟩ ⟨rfl, hk, hm1, hm2, hp⟩
          refine GoC.seq ?_
          refine GoC.region ?_
          refine GoO.pure (ps_lss rfl rfl rfl) ?_
          refine GoO.nil ?_
          refine GoK.code ?_
          refine GoC.seq ?_
          first | refine GoC.condD rfl (fun h80 => ?_) (fun h80 => ?_) | refine GoC.cond rfl (fun h80 => ?_) (fun h80 => ?_)
          · skip
            have hlt : k < steps.length := by omega
            have hst := hs _ (mem_getD0 hlt)
            have hr0 := Int.emod_nonneg (steps.getD k 0) (show (g.as.length : Int) ≠ 0 by omega)
            have hr1 := Int.emod_lt_of_pos (steps.getD k 0) (show 0 < (g.as.length : Int) by omega)
            have hja := mem_getD (l := g.as) (k := (steps.getD k 0 % (g.as.length : Int)).toNat) (by omega)
            have ha := hg.arc _ hja
            have hpa := hpot _ hja
            have a5 := ha.c0
            have a6 := ha.c1
            refine GoC.skip ?_
            refine GoK.code ?_
            refine GoC.seq ?_
            refine GoC.block ?_
            refine GoC.seq ?_
            refine GoC.region ?_
            first | refine GoO.pure (ps_indexAddr0N rfl rfl ?_ rfl) ?_ | refine GoO.pure (ps_indexAddrRN rfl rfl ?_ rfl) ?_ | refine GoO.pure (ps_indexAddr0 rfl rfl ?_ rfl) ?_ | refine GoO.pure (ps_indexAddrN rfl rfl ?_ rfl) ?_ | refine GoO.pure (ps_indexAddrRN rfl rfl ?_ rfl) ?_ | refine GoO.pure (ps_indexAddr rfl rfl ?_ rfl) ?_ | refine GoO.pure (ps_indexAddrR rfl rfl ?_ rfl) ?_
            · first | exact Nat.zero_lt_one | assumption | omega | exact InI.of (by omega) (by omega) | (simp only [ints_len, bools_len, st1_len, arcs_len, lits_len, List.length_set, List.length_append, List.length_cons, List.length_nil, List.length_replicate]; omega)
            first | refine GoO.pure (ps_load rfl (by first | exact At.p0 | exact At.p1 | exact At.p2 | exact At.p3 | exact At.p4 | exact At.p5 | exact At.p6 | exact At.p7 | exact At.p8 | exact At.p9 | exact At.p10 | exact At.p11 | exact At.p12 | exact At.p13) (by first | exact At.p0 | exact At.p1 | exact At.p2 | exact At.p3 | exact At.p4 | exact At.p5 | exact At.p6 | exact At.p7 | exact At.p8 | exact At.p9 | exact At.p10 | exact At.p11 | exact At.p12 | exact At.p13) ?_ rfl rfl) ?_ | refine GoO.pure (ps_loadR rfl ?_ rfl rfl) ?_
            · first | exact Nat.zero_lt_one | assumption | omega | exact InI.of (by omega) (by omega) | (simp only [ints_len, bools_len, st1_len, arcs_len, lits_len, List.length_set, List.length_append, List.length_cons, List.length_nil, List.length_replicate]; omega)
            refine GoO.pure (ps_assign rfl rfl) ?_
            refine GoO.nil ?_
            refine GoK.code ?_
            refine GoC.seq ?_
            refine GoC.drawP (.q 0 (.q 1 (.q 2 (.q 3 (.q 4 (.q 5 (.two 6 9 (.q 7 (.q 8 (.one 9 (.one 10 (.done))))) (.one 6 (.q 7 (.q 8 (.one 10 (.done)))))))))))) [(2, _, _, _)] follows (by kernel_rfl) (by exact (Take.cons _ _ _ _ _ (by first | exact Rem.p0 | exact Rem.p1 | exact Rem.p2 | exact Rem.p3 | exact Rem.p4 | exact Rem.p5 | exact Rem.p6 | exact Rem.p7 | exact Rem.p8 | exact Rem.p9 | exact Rem.p10 | exact Rem.p11 | exact Rem.p12 | exact Rem.p13) (Take.nil _))) ?_
            first | refine GoP.qN rfl (ps_fieldAddr rfl rfl) ?_ | refine GoP.qN rfl (ps_fieldAddrR rfl rfl) ?_
            first | refine GoP.qN rfl (ps_load rfl (by first | exact At.p0 | exact At.p1 | exact At.p2 | exact At.p3 | exact At.p4 | exact At.p5 | exact At.p6 | exact At.p7 | exact At.p8 | exact At.p9 | exact At.p10 | exact At.p11 | exact At.p12 | exact At.p13) (by first | exact At.p0 | exact At.p1 | exact At.p2 | exact At.p3 | exact At.p4 | exact At.p5 | exact At.p6 | exact At.p7 | exact At.p8 | exact At.p9 | exact At.p10 | exact At.p11 | exact At.p12 | exact At.p13) ?_ rfl rfl) ?_ | refine GoP.qN rfl (ps_loadR rfl ?_ rfl rfl) ?_
            · first | exact Nat.zero_lt_one | assumption | omega | exact InI.of (by omega) (by omega) | (simp only [ints_len, bools_len, st1_len, arcs_len, lits_len, List.length_set, List.length_append, List.length_cons, List.length_nil, List.length_replicate]; omega)
            refine GoP.qN rfl (ps_move rfl rfl) ?_
            first | refine GoP.qN rfl (ps_fieldAddr rfl rfl) ?_ | refine GoP.qN rfl (ps_fieldAddrR rfl rfl) ?_
            first | refine GoP.qN rfl (ps_load rfl (by first | exact At.p0 | exact At.p1 | exact At.p2 | exact At.p3 | exact At.p4 | exact At.p5 | exact At.p6 | exact At.p7 | exact At.p8 | exact At.p9 | exact At.p10 | exact At.p11 | exact At.p12 | exact At.p13) (by first | exact At.p0 | exact At.p1 | exact At.p2 | exact At.p3 | exact At.p4 | exact At.p5 | exact At.p6 | exact At.p7 | exact At.p8 | exact At.p9 | exact At.p10 | exact At.p11 | exact At.p12 | exact At.p13) ?_ rfl rfl) ?_ | refine GoP.qN rfl (ps_loadR rfl ?_ rfl rfl) ?_
            · first | exact Nat.zero_lt_one | assumption | omega | exact InI.of (by omega) (by omega) | (simp only [ints_len, bools_len, st1_len, arcs_len, lits_len, List.length_set, List.length_append, List.length_cons, List.length_nil, List.length_replicate]; omega)
            refine GoP.qN rfl (ps_len rfl (by constructor) rfl) ?_
            apply GoP.fork1
            · exact rfl
            · exact rfl
            · exact trivial
            · exact trivial
            · exact ef_call rfl (by first | exact (Take.nil _) | exact (Take.cons _ _ _ _ _ (by first | exact Rem.p0 | exact Rem.p1 | exact Rem.p2 | exact Rem.p3 | exact Rem.p4 | exact Rem.p5 | exact Rem.p6 | exact Rem.p7 | exact Rem.p8 | exact Rem.p9 | exact Rem.p10 | exact Rem.p11 | exact Rem.p12 | exact Rem.p13) (Take.nil _)) | exact (Take.cons _ _ _ _ _ (by first | exact Rem.p0 | exact Rem.p1 | exact Rem.p2 | exact Rem.p3 | exact Rem.p4 | exact Rem.p5 | exact Rem.p6 | exact Rem.p7 | exact Rem.p8 | exact Rem.p9 | exact Rem.p10 | exact Rem.p11 | exact Rem.p12 | exact Rem.p13) (Take.cons _ _ _ _ _ (by first | exact Rem.p0 | exact Rem.p1 | exact Rem.p2 | exact Rem.p3 | exact Rem.p4 | exact Rem.p5 | exact Rem.p6 | exact Rem.p7 | exact Rem.p8 | exact Rem.p9 | exact Rem.p10 | exact Rem.p11 | exact Rem.p12 | exact Rem.p13) (Take.nil _))) | exact (Take.cons _ _ _ _ _ (by first | exact Rem.p0 | exact Rem.p1 | exact Rem.p2 | exact Rem.p3 | exact Rem.p4 | exact Rem.p5 | exact Rem.p6 | exact Rem.p7 | exact Rem.p8 | exact Rem.p9 | exact Rem.p10 | exact Rem.p11 | exact Rem.p12 | exact Rem.p13) (Take.cons _ _ _ _ _ (by first | exact Rem.p0 | exact Rem.p1 | exact Rem.p2 | exact Rem.p3 | exact Rem.p4 | exact Rem.p5 | exact Rem.p6 | exact Rem.p7 | exact Rem.p8 | exact Rem.p9 | exact Rem.p10 | exact Rem.p11 | exact Rem.p12 | exact Rem.p13) (Take.cons _ _ _ _ _ (by first | exact Rem.p0 | exact Rem.p1 | exact Rem.p2 | exact Rem.p3 | exact Rem.p4 | exact Rem.p5 | exact Rem.p6 | exact Rem.p7 | exact Rem.p8 | exact Rem.p9 | exact Rem.p10 | exact Rem.p11 | exact Rem.p12 | exact Rem.p13) (Take.nil _)))) | exact (Take.cons _ _ _ _ _ (by first | exact Rem.p0 | exact Rem.p1 | exact Rem.p2 | exact Rem.p3 | exact Rem.p4 | exact Rem.p5 | exact Rem.p6 | exact Rem.p7 | exact Rem.p8 | exact Rem.p9 | exact Rem.p10 | exact Rem.p11 | exact Rem.p12 | exact Rem.p13) (Take.cons _ _ _ _ _ (by first | exact Rem.p0 | exact Rem.p1 | exact Rem.p2 | exact Rem.p3 | exact Rem.p4 | exact Rem.p5 | exact Rem.p6 | exact Rem.p7 | exact Rem.p8 | exact Rem.p9 | exact Rem.p10 | exact Rem.p11 | exact Rem.p12 | exact Rem.p13) (Take.cons _ _ _ _ _ (by first | exact Rem.p0 | exact Rem.p1 | exact Rem.p2 | exact Rem.p3 | exact Rem.p4 | exact Rem.p5 | exact Rem.p6 | exact Rem.p7 | exact Rem.p8 | exact Rem.p9 | exact Rem.p10 | exact Rem.p11 | exact Rem.p12 | exact Rem.p13) (Take.cons _ _ _ _ _ (by first | exact Rem.p0 | exact Rem.p1 | exact Rem.p2 | exact Rem.p3 | exact Rem.p4 | exact Rem.p5 | exact Rem.p6 | exact Rem.p7 | exact Rem.p8 | exact Rem.p9 | exact Rem.p10 | exact Rem.p11 | exact Rem.p12 | exact Rem.p13) (Take.nil _)))))) (by exact LendL.cons (by first | exact Lend.refl _ _ | exact Lend.all' (by first | exact At.p0 | exact At.p1 | exact At.p2 | exact At.p3 | exact At.p4 | exact At.p5 | exact At.p6 | exact At.p7 | exact At.p8 | exact At.p9 | exact At.p10 | exact At.p11 | exact At.p12 | exact At.p13) (by rfl) (by rfl) | exact Lend.agL (by repeat (first | exact LendL.nil | refine LendL.cons (by first | exact Lend.refl _ _ | exact Lend.all' (by first | exact At.p0 | exact At.p1 | exact At.p2 | exact At.p3 | exact At.p4 | exact At.p5 | exact At.p6 | exact At.p7 | exact At.p8 | exact At.p9 | exact At.p10 | exact At.p11 | exact At.p12 | exact At.p13) (by rfl) (by rfl)) (by first | exact Nat.zero_lt_one | assumption | omega | exact InI.of (by omega) (by omega) | (simp only [ints_len, bools_len, st1_len, arcs_len, lits_len, List.length_set, List.length_append, List.length_cons, List.length_nil, List.length_replicate]; omega))))) (LendL.cons (by first | exact Lend.refl _ _ | exact Lend.all' (by first | exact At.p0 | exact At.p1 | exact At.p2 | exact At.p3 | exact At.p4 | exact At.p5 | exact At.p6 | exact At.p7 | exact At.p8 | exact At.p9 | exact At.p10 | exact At.p11 | exact At.p12 | exact At.p13) (by rfl) (by rfl) | exact Lend.agL (by repeat (first | exact LendL.nil | refine LendL.cons (by first | exact Lend.refl _ _ | exact Lend.all' (by first | exact At.p0 | exact At.p1 | exact At.p2 | exact At.p3 | exact At.p4 | exact At.p5 | exact At.p6 | exact At.p7 | exact At.p8 | exact At.p9 | exact At.p10 | exact At.p11 | exact At.p12 | exact At.p13) (by rfl) (by rfl)) (by first | exact Nat.zero_lt_one | assumption | omega | exact InI.of (by omega) (by omega) | (simp only [ints_len, bools_len, st1_len, arcs_len, lits_len, List.length_set, List.length_append, List.length_cons, List.length_nil, List.length_replicate]; omega))))) (LendL.nil))) (rest_spec (steps.getD k 0) g.as.length hst (by omega) (by omega)) rfl
            · exact ef_alloc rfl
            · exact (by first | exact (Take.nil _) | exact (Take.cons _ _ _ _ _ (by first | exact Rem.p0 | exact Rem.p1 | exact Rem.p2 | exact Rem.p3 | exact Rem.p4 | exact Rem.p5 | exact Rem.p6 | exact Rem.p7 | exact Rem.p8 | exact Rem.p9 | exact Rem.p10 | exact Rem.p11 | exact Rem.p12 | exact Rem.p13) (Take.nil _)) | exact (Take.cons _ _ _ _ _ (by first | exact Rem.p0 | exact Rem.p1 | exact Rem.p2 | exact Rem.p3 | exact Rem.p4 | exact Rem.p5 | exact Rem.p6 | exact Rem.p7 | exact Rem.p8 | exact Rem.p9 | exact Rem.p10 | exact Rem.p11 | exact Rem.p12 | exact Rem.p13) (Take.cons _ _ _ _ _ (by first | exact Rem.p0 | exact Rem.p1 | exact Rem.p2 | exact Rem.p3 | exact Rem.p4 | exact Rem.p5 | exact Rem.p6 | exact Rem.p7 | exact Rem.p8 | exact Rem.p9 | exact Rem.p10 | exact Rem.p11 | exact Rem.p12 | exact Rem.p13) (Take.nil _))) | exact (Take.cons _ _ _ _ _ (by first | exact Rem.p0 | exact Rem.p1 | exact Rem.p2 | exact Rem.p3 | exact Rem.p4 | exact Rem.p5 | exact Rem.p6 | exact Rem.p7 | exact Rem.p8 | exact Rem.p9 | exact Rem.p10 | exact Rem.p11 | exact Rem.p12 | exact Rem.p13) (Take.cons _ _ _ _ _ (by first | exact Rem.p0 | exact Rem.p1 | exact Rem.p2 | exact Rem.p3 | exact Rem.p4 | exact Rem.p5 | exact Rem.p6 | exact Rem.p7 | exact Rem.p8 | exact Rem.p9 | exact Rem.p10 | exact Rem.p11 | exact Rem.p12 | exact Rem.p13) (Take.cons _ _ _ _ _ (by first | exact Rem.p0 | exact Rem.p1 | exact Rem.p2 | exact Rem.p3 | exact Rem.p4 | exact Rem.p5 | exact Rem.p6 | exact Rem.p7 | exact Rem.p8 | exact Rem.p9 | exact Rem.p10 | exact Rem.p11 | exact Rem.p12 | exact Rem.p13) (Take.nil _)))) | exact (Take.cons _ _ _ _ _ (by first | exact Rem.p0 | exact Rem.p1 | exact Rem.p2 | exact Rem.p3 | exact Rem.p4 | exact Rem.p5 | exact Rem.p6 | exact Rem.p7 | exact Rem.p8 | exact Rem.p9 | exact Rem.p10 | exact Rem.p11 | exact Rem.p12 | exact Rem.p13) (Take.cons _ _ _ _ _ (by first | exact Rem.p0 | exact Rem.p1 | exact Rem.p2 | exact Rem.p3 | exact Rem.p4 | exact Rem.p5 | exact Rem.p6 | exact Rem.p7 | exact Rem.p8 | exact Rem.p9 | exact Rem.p10 | exact Rem.p11 | exact Rem.p12 | exact Rem.p13) (Take.cons _ _ _ _ _ (by first | exact Rem.p0 | exact Rem.p1 | exact Rem.p2 | exact Rem.p3 | exact Rem.p4 | exact Rem.p5 | exact Rem.p6 | exact Rem.p7 | exact Rem.p8 | exact Rem.p9 | exact Rem.p10 | exact Rem.p11 | exact Rem.p12 | exact Rem.p13) (Take.cons _ _ _ _ _ (by first | exact Rem.p0 | exact Rem.p1 | exact Rem.p2 | exact Rem.p3 | exact Rem.p4 | exact Rem.p5 | exact Rem.p6 | exact Rem.p7 | exact Rem.p8 | exact Rem.p9 | exact Rem.p10 | exact Rem.p11 | exact Rem.p12 | exact Rem.p13) (Take.nil _))))))
            · exact (by first | exact (Take.nil _) | exact (Take.cons _ _ _ _ _ (by first | exact Rem.p0 | exact Rem.p1 | exact Rem.p2 | exact Rem.p3 | exact Rem.p4 | exact Rem.p5 | exact Rem.p6 | exact Rem.p7 | exact Rem.p8 | exact Rem.p9 | exact Rem.p10 | exact Rem.p11 | exact Rem.p12 | exact Rem.p13) (Take.nil _)) | exact (Take.cons _ _ _ _ _ (by first | exact Rem.p0 | exact Rem.p1 | exact Rem.p2 | exact Rem.p3 | exact Rem.p4 | exact Rem.p5 | exact Rem.p6 | exact Rem.p7 | exact Rem.p8 | exact Rem.p9 | exact Rem.p10 | exact Rem.p11 | exact Rem.p12 | exact Rem.p13) (Take.cons _ _ _ _ _ (by first | exact Rem.p0 | exact Rem.p1 | exact Rem.p2 | exact Rem.p3 | exact Rem.p4 | exact Rem.p5 | exact Rem.p6 | exact Rem.p7 | exact Rem.p8 | exact Rem.p9 | exact Rem.p10 | exact Rem.p11 | exact Rem.p12 | exact Rem.p13) (Take.nil _))) | exact (Take.cons _ _ _ _ _ (by first | exact Rem.p0 | exact Rem.p1 | exact Rem.p2 | exact Rem.p3 | exact Rem.p4 | exact Rem.p5 | exact Rem.p6 | exact Rem.p7 | exact Rem.p8 | exact Rem.p9 | exact Rem.p10 | exact Rem.p11 | exact Rem.p12 | exact Rem.p13) (Take.cons _ _ _ _ _ (by first | exact Rem.p0 | exact Rem.p1 | exact Rem.p2 | exact Rem.p3 | exact Rem.p4 | exact Rem.p5 | exact Rem.p6 | exact Rem.p7 | exact Rem.p8 | exact Rem.p9 | exact Rem.p10 | exact Rem.p11 | exact Rem.p12 | exact Rem.p13) (Take.cons _ _ _ _ _ (by first | exact Rem.p0 | exact Rem.p1 | exact Rem.p2 | exact Rem.p3 | exact Rem.p4 | exact Rem.p5 | exact Rem.p6 | exact Rem.p7 | exact Rem.p8 | exact Rem.p9 | exact Rem.p10 | exact Rem.p11 | exact Rem.p12 | exact Rem.p13) (Take.nil _)))) | exact (Take.cons _ _ _ _ _ (by first | exact Rem.p0 | exact Rem.p1 | exact Rem.p2 | exact Rem.p3 | exact Rem.p4 | exact Rem.p5 | exact Rem.p6 | exact Rem.p7 | exact Rem.p8 | exact Rem.p9 | exact Rem.p10 | exact Rem.p11 | exact Rem.p12 | exact Rem.p13) (Take.cons _ _ _ _ _ (by first | exact Rem.p0 | exact Rem.p1 | exact Rem.p2 | exact Rem.p3 | exact Rem.p4 | exact Rem.p5 | exact Rem.p6 | exact Rem.p7 | exact Rem.p8 | exact Rem.p9 | exact Rem.p10 | exact Rem.p11 | exact Rem.p12 | exact Rem.p13) (Take.cons _ _ _ _ _ (by first | exact Rem.p0 | exact Rem.p1 | exact Rem.p2 | exact Rem.p3 | exact Rem.p4 | exact Rem.p5 | exact Rem.p6 | exact Rem.p7 | exact Rem.p8 | exact Rem.p9 | exact Rem.p10 | exact Rem.p11 | exact Rem.p12 | exact Rem.p13) (Take.cons _ _ _ _ _ (by first | exact Rem.p0 | exact Rem.p1 | exact Rem.p2 | exact Rem.p3 | exact Rem.p4 | exact Rem.p5 | exact Rem.p6 | exact Rem.p7 | exact Rem.p8 | exact Rem.p9 | exact Rem.p10 | exact Rem.p11 | exact Rem.p12 | exact Rem.p13) (Take.nil _))))))
            · intro hQ
              rintro _ ⟨_, _, hp, rfl⟩
              obtain ⟨rfl, rfl⟩ := hp
              first | refine GoP.qN rfl (ps_indexAddr0N rfl rfl ?_ rfl) ?_ | refine GoP.qN rfl (ps_indexAddrRN rfl rfl ?_ rfl) ?_ | refine GoP.qN rfl (ps_indexAddr0 rfl rfl ?_ rfl) ?_ | refine GoP.qN rfl (ps_indexAddrN rfl rfl ?_ rfl) ?_ | refine GoP.qN rfl (ps_indexAddrRN rfl rfl ?_ rfl) ?_ | refine GoP.qN rfl (ps_indexAddr rfl rfl ?_ rfl) ?_ | refine GoP.qN rfl (ps_indexAddrR rfl rfl ?_ rfl) ?_
              · first | exact Nat.zero_lt_one | assumption | omega | exact InI.of (by omega) (by omega) | (simp only [ints_len, bools_len, st1_len, arcs_len, lits_len, List.length_set, List.length_append, List.length_cons, List.length_nil, List.length_replicate]; omega)
              first | refine GoP.qN rfl (ps_loadAg rfl (by first | exact At.p0 | exact At.p1 | exact At.p2 | exact At.p3 | exact At.p4 | exact At.p5 | exact At.p6 | exact At.p7 | exact At.p8 | exact At.p9 | exact At.p10 | exact At.p11 | exact At.p12 | exact At.p13) (by first | exact At.p0 | exact At.p1 | exact At.p2 | exact At.p3 | exact At.p4 | exact At.p5 | exact At.p6 | exact At.p7 | exact At.p8 | exact At.p9 | exact At.p10 | exact At.p11 | exact At.p12 | exact At.p13) ?_ rfl rfl) ?_ | refine GoP.qN rfl (ps_loadAgR rfl ?_ rfl rfl) ?_
              · first | exact Nat.zero_lt_one | assumption | omega | exact InI.of (by omega) (by omega) | (simp only [ints_len, bools_len, st1_len, arcs_len, lits_len, List.length_set, List.length_append, List.length_cons, List.length_nil, List.length_replicate]; omega)
              refine GoP.oneB rfl trivial (ef_alloc rfl) (by exact (Take.cons _ _ _ _ _ (by first | exact Rem.p0 | exact Rem.p1 | exact Rem.p2 | exact Rem.p3 | exact Rem.p4 | exact Rem.p5 | exact Rem.p6 | exact Rem.p7 | exact Rem.p8 | exact Rem.p9 | exact Rem.p10 | exact Rem.p11 | exact Rem.p12 | exact Rem.p13) (Take.nil _))) (fun β93 => ?_)
              refine GoP.one1 rfl trivial (ef_storeAg rfl rfl (by first | exact At.p0 | exact At.p1 | exact At.p2 | exact At.p3 | exact At.p4 | exact At.p5 | exact At.p6 | exact At.p7 | exact At.p8 | exact At.p9 | exact At.p10 | exact At.p11 | exact At.p12 | exact At.p13) upd_whole Nat.zero_lt_one rfl) (by exact (Take.cons _ _ _ _ _ (by first | exact Rem.p0 | exact Rem.p1 | exact Rem.p2 | exact Rem.p3 | exact Rem.p4 | exact Rem.p5 | exact Rem.p6 | exact Rem.p7 | exact Rem.p8 | exact Rem.p9 | exact Rem.p10 | exact Rem.p11 | exact Rem.p12 | exact Rem.p13) (Take.cons _ _ _ _ _ (by first | exact Rem.p0 | exact Rem.p1 | exact Rem.p2 | exact Rem.p3 | exact Rem.p4 | exact Rem.p5 | exact Rem.p6 | exact Rem.p7 | exact Rem.p8 | exact Rem.p9 | exact Rem.p10 | exact Rem.p11 | exact Rem.p12 | exact Rem.p13) (Take.nil _)))) ?_
              exact GoP.done (hQ β93)
            · intro hQ
              rintro _ ⟨β95, rfl⟩
              refine GoP.oneC rfl trivial (ef_call rfl (by first | exact (Take.nil _) | exact (Take.cons _ _ _ _ _ (by first | exact Rem.p0 | exact Rem.p1 | exact Rem.p2 | exact Rem.p3 | exact Rem.p4 | exact Rem.p5 | exact Rem.p6 | exact Rem.p7 | exact Rem.p8 | exact Rem.p9 | exact Rem.p10 | exact Rem.p11 | exact Rem.p12 | exact Rem.p13) (Take.nil _)) | exact (Take.cons _ _ _ _ _ (by first | exact Rem.p0 | exact Rem.p1 | exact Rem.p2 | exact Rem.p3 | exact Rem.p4 | exact Rem.p5 | exact Rem.p6 | exact Rem.p7 | exact Rem.p8 | exact Rem.p9 | exact Rem.p10 | exact Rem.p11 | exact Rem.p12 | exact Rem.p13) (Take.cons _ _ _ _ _ (by first | exact Rem.p0 | exact Rem.p1 | exact Rem.p2 | exact Rem.p3 | exact Rem.p4 | exact Rem.p5 | exact Rem.p6 | exact Rem.p7 | exact Rem.p8 | exact Rem.p9 | exact Rem.p10 | exact Rem.p11 | exact Rem.p12 | exact Rem.p13) (Take.nil _))) | exact (Take.cons _ _ _ _ _ (by first | exact Rem.p0 | exact Rem.p1 | exact Rem.p2 | exact Rem.p3 | exact Rem.p4 | exact Rem.p5 | exact Rem.p6 | exact Rem.p7 | exact Rem.p8 | exact Rem.p9 | exact Rem.p10 | exact Rem.p11 | exact Rem.p12 | exact Rem.p13) (Take.cons _ _ _ _ _ (by first | exact Rem.p0 | exact Rem.p1 | exact Rem.p2 | exact Rem.p3 | exact Rem.p4 | exact Rem.p5 | exact Rem.p6 | exact Rem.p7 | exact Rem.p8 | exact Rem.p9 | exact Rem.p10 | exact Rem.p11 | exact Rem.p12 | exact Rem.p13) (Take.cons _ _ _ _ _ (by first | exact Rem.p0 | exact Rem.p1 | exact Rem.p2 | exact Rem.p3 | exact Rem.p4 | exact Rem.p5 | exact Rem.p6 | exact Rem.p7 | exact Rem.p8 | exact Rem.p9 | exact Rem.p10 | exact Rem.p11 | exact Rem.p12 | exact Rem.p13) (Take.nil _)))) | exact (Take.cons _ _ _ _ _ (by first | exact Rem.p0 | exact Rem.p1 | exact Rem.p2 | exact Rem.p3 | exact Rem.p4 | exact Rem.p5 | exact Rem.p6 | exact Rem.p7 | exact Rem.p8 | exact Rem.p9 | exact Rem.p10 | exact Rem.p11 | exact Rem.p12 | exact Rem.p13) (Take.cons _ _ _ _ _ (by first | exact Rem.p0 | exact Rem.p1 | exact Rem.p2 | exact Rem.p3 | exact Rem.p4 | exact Rem.p5 | exact Rem.p6 | exact Rem.p7 | exact Rem.p8 | exact Rem.p9 | exact Rem.p10 | exact Rem.p11 | exact Rem.p12 | exact Rem.p13) (Take.cons _ _ _ _ _ (by first | exact Rem.p0 | exact Rem.p1 | exact Rem.p2 | exact Rem.p3 | exact Rem.p4 | exact Rem.p5 | exact Rem.p6 | exact Rem.p7 | exact Rem.p8 | exact Rem.p9 | exact Rem.p10 | exact Rem.p11 | exact Rem.p12 | exact Rem.p13) (Take.cons _ _ _ _ _ (by first | exact Rem.p0 | exact Rem.p1 | exact Rem.p2 | exact Rem.p3 | exact Rem.p4 | exact Rem.p5 | exact Rem.p6 | exact Rem.p7 | exact Rem.p8 | exact Rem.p9 | exact Rem.p10 | exact Rem.p11 | exact Rem.p12 | exact Rem.p13) (Take.nil _)))))) (by exact LendL.cons (by first | exact Lend.refl _ _ | exact Lend.all' (by first | exact At.p0 | exact At.p1 | exact At.p2 | exact At.p3 | exact At.p4 | exact At.p5 | exact At.p6 | exact At.p7 | exact At.p8 | exact At.p9 | exact At.p10 | exact At.p11 | exact At.p12 | exact At.p13) (by rfl) (by rfl) | exact Lend.agL (by repeat (first | exact LendL.nil | refine LendL.cons (by first | exact Lend.refl _ _ | exact Lend.all' (by first | exact At.p0 | exact At.p1 | exact At.p2 | exact At.p3 | exact At.p4 | exact At.p5 | exact At.p6 | exact At.p7 | exact At.p8 | exact At.p9 | exact At.p10 | exact At.p11 | exact At.p12 | exact At.p13) (by rfl) (by rfl)) ?_))) (LendL.cons (by first | exact Lend.refl _ _ | exact Lend.all' (by first | exact At.p0 | exact At.p1 | exact At.p2 | exact At.p3 | exact At.p4 | exact At.p5 | exact At.p6 | exact At.p7 | exact At.p8 | exact At.p9 | exact At.p10 | exact At.p11 | exact At.p12 | exact At.p13) (by rfl) (by rfl) | exact Lend.agL (by repeat (first | exact LendL.nil | refine LendL.cons (by first | exact Lend.refl _ _ | exact Lend.all' (by first | exact At.p0 | exact At.p1 | exact At.p2 | exact At.p3 | exact At.p4 | exact At.p5 | exact At.p6 | exact At.p7 | exact At.p8 | exact At.p9 | exact At.p10 | exact At.p11 | exact At.p12 | exact At.p13) (by rfl) (by rfl)) ?_))) (LendL.nil))) (rest_spec (steps.getD k 0) g.as.length hst (by omega) (by omega)) rfl) (by first | exact (Take.nil _) | exact (Take.cons _ _ _ _ _ (by first | exact Rem.p0 | exact Rem.p1 | exact Rem.p2 | exact Rem.p3 | exact Rem.p4 | exact Rem.p5 | exact Rem.p6 | exact Rem.p7 | exact Rem.p8 | exact Rem.p9 | exact Rem.p10 | exact Rem.p11 | exact Rem.p12 | exact Rem.p13) (Take.nil _)) | exact (Take.cons _ _ _ _ _ (by first | exact Rem.p0 | exact Rem.p1 | exact Rem.p2 | exact Rem.p3 | exact Rem.p4 | exact Rem.p5 | exact Rem.p6 | exact Rem.p7 | exact Rem.p8 | exact Rem.p9 | exact Rem.p10 | exact Rem.p11 | exact Rem.p12 | exact Rem.p13) (Take.cons _ _ _ _ _ (by first | exact Rem.p0 | exact Rem.p1 | exact Rem.p2 | exact Rem.p3 | exact Rem.p4 | exact Rem.p5 | exact Rem.p6 | exact Rem.p7 | exact Rem.p8 | exact Rem.p9 | exact Rem.p10 | exact Rem.p11 | exact Rem.p12 | exact Rem.p13) (Take.nil _))) | exact (Take.cons _ _ _ _ _ (by first | exact Rem.p0 | exact Rem.p1 | exact Rem.p2 | exact Rem.p3 | exact Rem.p4 | exact Rem.p5 | exact Rem.p6 | exact Rem.p7 | exact Rem.p8 | exact Rem.p9 | exact Rem.p10 | exact Rem.p11 | exact Rem.p12 | exact Rem.p13) (Take.cons _ _ _ _ _ (by first | exact Rem.p0 | exact Rem.p1 | exact Rem.p2 | exact Rem.p3 | exact Rem.p4 | exact Rem.p5 | exact Rem.p6 | exact Rem.p7 | exact Rem.p8 | exact Rem.p9 | exact Rem.p10 | exact Rem.p11 | exact Rem.p12 | exact Rem.p13) (Take.cons _ _ _ _ _ (by first | exact Rem.p0 | exact Rem.p1 | exact Rem.p2 | exact Rem.p3 | exact Rem.p4 | exact Rem.p5 | exact Rem.p6 | exact Rem.p7 | exact Rem.p8 | exact Rem.p9 | exact Rem.p10 | exact Rem.p11 | exact Rem.p12 | exact Rem.p13) (Take.nil _)))) | exact (Take.cons _ _ _ _ _ (by first | exact Rem.p0 | exact Rem.p1 | exact Rem.p2 | exact Rem.p3 | exact Rem.p4 | exact Rem.p5 | exact Rem.p6 | exact Rem.p7 | exact Rem.p8 | exact Rem.p9 | exact Rem.p10 | exact Rem.p11 | exact Rem.p12 | exact Rem.p13) (Take.cons _ _ _ _ _ (by first | exact Rem.p0 | exact Rem.p1 | exact Rem.p2 | exact Rem.p3 | exact Rem.p4 | exact Rem.p5 | exact Rem.p6 | exact Rem.p7 | exact Rem.p8 | exact Rem.p9 | exact Rem.p10 | exact Rem.p11 | exact Rem.p12 | exact Rem.p13) (Take.cons _ _ _ _ _ (by first | exact Rem.p0 | exact Rem.p1 | exact Rem.p2 | exact Rem.p3 | exact Rem.p4 | exact Rem.p5 | exact Rem.p6 | exact Rem.p7 | exact Rem.p8 | exact Rem.p9 | exact Rem.p10 | exact Rem.p11 | exact Rem.p12 | exact Rem.p13) (Take.cons _ _ _ _ _ (by first | exact Rem.p0 | exact Rem.p1 | exact Rem.p2 | exact Rem.p3 | exact Rem.p4 | exact Rem.p5 | exact Rem.p6 | exact Rem.p7 | exact Rem.p8 | exact Rem.p9 | exact Rem.p10 | exact Rem.p11 | exact Rem.p12 | exact Rem.p13) (Take.nil _)))))) (fun r H hp => ?_)
              obtain ⟨rfl, rfl⟩ := hp
              first | refine GoP.qN rfl (ps_indexAddr0N rfl rfl ?_ rfl) ?_ | refine GoP.qN rfl (ps_indexAddrRN rfl rfl ?_ rfl) ?_ | refine GoP.qN rfl (ps_indexAddr0 rfl rfl ?_ rfl) ?_ | refine GoP.qN rfl (ps_indexAddrN rfl rfl ?_ rfl) ?_ | refine GoP.qN rfl (ps_indexAddrRN rfl rfl ?_ rfl) ?_ | refine GoP.qN rfl (ps_indexAddr rfl rfl ?_ rfl) ?_ | refine GoP.qN rfl (ps_indexAddrR rfl rfl ?_ rfl) ?_
              · first | exact Nat.zero_lt_one | assumption | omega | exact InI.of (by omega) (by omega) | (simp only [ints_len, bools_len, st1_len, arcs_len, lits_len, List.length_set, List.length_append, List.length_cons, List.length_nil, List.length_replicate]; omega)
              first | refine GoP.qN rfl (ps_loadAg rfl (by first | exact At.p0 | exact At.p1 | exact At.p2 | exact At.p3 | exact At.p4 | exact At.p5 | exact At.p6 | exact At.p7 | exact At.p8 | exact At.p9 | exact At.p10 | exact At.p11 | exact At.p12 | exact At.p13) (by first | exact At.p0 | exact At.p1 | exact At.p2 | exact At.p3 | exact At.p4 | exact At.p5 | exact At.p6 | exact At.p7 | exact At.p8 | exact At.p9 | exact At.p10 | exact At.p11 | exact At.p12 | exact At.p13) ?_ rfl rfl) ?_ | refine GoP.qN rfl (ps_loadAgR rfl ?_ rfl rfl) ?_
              · first | exact Nat.zero_lt_one | assumption | omega | exact InI.of (by omega) (by omega) | (simp only [ints_len, bools_len, st1_len, arcs_len, lits_len, List.length_set, List.length_append, List.length_cons, List.length_nil, List.length_replicate]; omega)
              refine GoP.one1 rfl trivial (ef_storeAg rfl rfl (by first | exact At.p0 | exact At.p1 | exact At.p2 | exact At.p3 | exact At.p4 | exact At.p5 | exact At.p6 | exact At.p7 | exact At.p8 | exact At.p9 | exact At.p10 | exact At.p11 | exact At.p12 | exact At.p13) upd_whole Nat.zero_lt_one rfl) (by exact (Take.cons _ _ _ _ _ (by first | exact Rem.p0 | exact Rem.p1 | exact Rem.p2 | exact Rem.p3 | exact Rem.p4 | exact Rem.p5 | exact Rem.p6 | exact Rem.p7 | exact Rem.p8 | exact Rem.p9 | exact Rem.p10 | exact Rem.p11 | exact Rem.p12 | exact Rem.p13) (Take.cons _ _ _ _ _ (by first | exact Rem.p0 | exact Rem.p1 | exact Rem.p2 | exact Rem.p3 | exact Rem.p4 | exact Rem.p5 | exact Rem.p6 | exact Rem.p7 | exact Rem.p8 | exact Rem.p9 | exact Rem.p10 | exact Rem.p11 | exact Rem.p12 | exact Rem.p13) (Take.nil _)))) ?_
              refine GoP.done (GoK.le ?_ (hQ β95))
              apply Le.ofW
              · repeat (first | exact EnvLeW.nil | refine EnvLeW.cons rfl ?_ | refine EnvLeW.skip rfl ?_)
              · repeat (first | exact Tk.all _ | exact Tk.nil | refine Tk.cons (by first | exact Rem.p0 | exact Rem.p1 | exact Rem.p2 | exact Rem.p3 | exact Rem.p4 | exact Rem.p5 | exact Rem.p6 | exact Rem.p7 | exact Rem.p8 | exact Rem.p9 | exact Rem.p10 | exact Rem.p11 | exact Rem.p12 | exact Rem.p13) ?_)
            · intro β93
              refine GoK.code ?_
              refine GoC.seq ?_
              refine GoC.seq ?_
              refine GoC.region ?_
              first | refine GoO.pure (ps_fieldAddr rfl rfl) ?_ | refine GoO.pure (ps_fieldAddrR rfl rfl) ?_
              first | refine GoO.pure (ps_load rfl (by first | exact At.p0 | exact At.p1 | exact At.p2 | exact At.p3 | exact At.p4 | exact At.p5 | exact At.p6 | exact At.p7 | exact At.p8 | exact At.p9 | exact At.p10 | exact At.p11 | exact At.p12 | exact At.p13) (by first | exact At.p0 | exact At.p1 | exact At.p2 | exact At.p3 | exact At.p4 | exact At.p5 | exact At.p6 | exact At.p7 | exact At.p8 | exact At.p9 | exact At.p10 | exact At.p11 | exact At.p12 | exact At.p13) ?_ rfl rfl) ?_ | refine GoO.pure (ps_loadR rfl ?_ rfl rfl) ?_
              · first | exact Nat.zero_lt_one | assumption | omega | exact InI.of (by omega) (by omega) | (simp only [ints_len, bools_len, st1_len, arcs_len, lits_len, List.length_set, List.length_append, List.length_cons, List.length_nil, List.length_replicate]; omega)
              refine GoO.pure (ps_move rfl rfl) ?_
              first | refine GoO.pure (ps_neq rfl rfl rfl) ?_ | refine GoO.pure (ps_neqB rfl rfl rfl) ?_ | refine GoO.pure (ps_neqA rfl rfl rfl rfl) ?_
              refine GoO.nil ?_
              refine GoK.code ?_
              first | refine GoC.condD rfl (fun h104 => ?_) (fun h104 => ?_) | refine GoC.cond rfl (fun h104 => ?_) (fun h104 => ?_)
              · skip
                refine GoC.exit rfl ?_
                refine GoK.code ?_
                refine GoC.region ?_
                refine GoO.pure (ps_add rfl rfl rfl ?_) ?_
                · first | exact Nat.zero_lt_one | assumption | omega | exact InI.of (by omega) (by omega) | (simp only [ints_len, bools_len, st1_len, arcs_len, lits_len, List.length_set, List.length_append, List.length_cons, List.length_nil, List.length_replicate]; omega)
                refine GoO.pure (ps_move rfl rfl) ?_
                refine GoO.nil ?_
                refine GoK.againE (steps.length - (k + 1)) (k + 1, _, _) ?_ ?_ (by repeat (first | exact EnvLe.nil | refine EnvLe.cons rfl ?_)) (by repeat (first | exact Tk.all _ | exact Tk.nil | refine Tk.cons (by first | exact Rem.p0 | exact Rem.p1 | exact Rem.p2 | exact Rem.p3 | exact Rem.p4 | exact Rem.p5 | exact Rem.p6 | exact Rem.p7 | exact Rem.p8 | exact Rem.p9 | exact Rem.p10 | exact Rem.p11 | exact Rem.p12 | exact Rem.p13) ?_))
                · omega
                · first | exact ⟨rfl, hlt, by omega, by omega, hp⟩ | exact ⟨rfl, hlt, by omega, by omega, by have e : (g.as.getD (steps.getD k 0 % (g.as.length : Int)).toNat ⟨0, 0, 0⟩).f = at_ := (by omega); rw [← e] at hp; omega⟩
              · skip
                refine GoC.skip ?_
                refine GoK.code ?_
                refine GoC.seq ?_
                refine GoC.drawA (.q 0 (.q 1 (.q 2 (.q 3 (.q 4 (.q 5 (.q 6 (.q 7 (.done))))))))) follows (by kernel_rfl) ?_
                first | refine GoP.qN rfl (ps_fieldAddr rfl rfl) ?_ | refine GoP.qN rfl (ps_fieldAddrR rfl rfl) ?_
                first | refine GoP.qN rfl (ps_load rfl (by first | exact At.p0 | exact At.p1 | exact At.p2 | exact At.p3 | exact At.p4 | exact At.p5 | exact At.p6 | exact At.p7 | exact At.p8 | exact At.p9 | exact At.p10 | exact At.p11 | exact At.p12 | exact At.p13) (by first | exact At.p0 | exact At.p1 | exact At.p2 | exact At.p3 | exact At.p4 | exact At.p5 | exact At.p6 | exact At.p7 | exact At.p8 | exact At.p9 | exact At.p10 | exact At.p11 | exact At.p12 | exact At.p13) ?_ rfl rfl) ?_ | refine GoP.qN rfl (ps_loadR rfl ?_ rfl rfl) ?_
                · first | exact Nat.zero_lt_one | assumption | omega | exact InI.of (by omega) (by omega) | (simp only [ints_len, bools_len, st1_len, arcs_len, lits_len, List.length_set, List.length_append, List.length_cons, List.length_nil, List.length_replicate]; omega)
                refine GoP.qN rfl (ps_move rfl rfl) ?_
                first | refine GoP.qN rfl (ps_fieldAddr rfl rfl) ?_ | refine GoP.qN rfl (ps_fieldAddrR rfl rfl) ?_
                first | refine GoP.qN rfl (ps_load rfl (by first | exact At.p0 | exact At.p1 | exact At.p2 | exact At.p3 | exact At.p4 | exact At.p5 | exact At.p6 | exact At.p7 | exact At.p8 | exact At.p9 | exact At.p10 | exact At.p11 | exact At.p12 | exact At.p13) (by first | exact At.p0 | exact At.p1 | exact At.p2 | exact At.p3 | exact At.p4 | exact At.p5 | exact At.p6 | exact At.p7 | exact At.p8 | exact At.p9 | exact At.p10 | exact At.p11 | exact At.p12 | exact At.p13) ?_ rfl rfl) ?_ | refine GoP.qN rfl (ps_loadR rfl ?_ rfl rfl) ?_
                · first | exact Nat.zero_lt_one | assumption | omega | exact InI.of (by omega) (by omega) | (simp only [ints_len, bools_len, st1_len, arcs_len, lits_len, List.length_set, List.length_append, List.length_cons, List.length_nil, List.length_replicate]; omega)
                refine GoP.qN rfl (ps_add rfl rfl rfl ?_) ?_
                · first | exact Nat.zero_lt_one | assumption | omega | exact InI.of (by omega) (by omega) | (simp only [ints_len, bools_len, st1_len, arcs_len, lits_len, List.length_set, List.length_append, List.length_cons, List.length_nil, List.length_replicate]; omega)
                refine GoP.qN rfl (ps_assign rfl rfl) ?_
                refine GoP.qN rfl (ps_assign rfl rfl) ?_
                refine GoP.done ?_
                refine GoK.code ?_
                refine GoC.seq ?_
                refine GoC.region ?_
                refine GoO.pure (ps_move rfl rfl) ?_
                refine GoO.pure (ps_move rfl rfl) ?_
                first | refine GoO.pure (ps_eql rfl rfl rfl) ?_ | refine GoO.pure (ps_eqlB rfl rfl rfl) ?_ | refine GoO.pure (ps_eqlA rfl rfl rfl rfl) ?_
                refine GoO.pure (ps_move rfl rfl) ?_
                first | refine GoO.guardD rfl rfl rfl rfl (fun h119 => ?_) (fun h119 => ?_) | refine GoO.guard rfl rfl rfl rfl (fun h119 => ?_) (fun h119 => ?_)
                · skip
                  refine GoO.pure (ps_move rfl rfl) ?_
                  refine GoO.guardT rfl rfl rfl ?_
                  refine GoO.pure (ps_lss rfl rfl rfl) ?_
                  refine GoO.pure (ps_pickT rfl rfl rfl) ?_
                  refine GoO.nil ?_
                  refine GoK.code ?_
                  first | refine GoC.condD rfl (fun h123 => ?_) (fun h123 => ?_) | refine GoC.cond rfl (fun h123 => ?_) (fun h123 => ?_)
                  · skip
                    refine GoC.seq ?_
                    refine GoC.region ?_
                    refine GoO.pure (ps_assign rfl rfl) ?_
                    refine GoO.nil ?_
                    refine GoK.code ?_
                    refine GoC.ret1 (H' := []) Try.results3 (ResD.tmp rfl) (by exact (Take.nil _)) ?_
                    · have e : (g.as.getD (steps.getD k 0 % (g.as.length : Int)).toNat ⟨0, 0, 0⟩).f = at_ := (by omega); have e2 : (g.as.getD (steps.getD k 0 % (g.as.length : Int)).toNat ⟨0, 0, 0⟩).t = (g.as.getD 0 ⟨0, 0, 0⟩).f := (by omega); rw [← e] at hp; rw [e2] at hpa; omega
                  · skip
                    refine GoC.skip ?_
                    refine GoK.blk ?_
                    refine GoK.code ?_
                    refine GoC.region ?_
                    refine GoO.pure (ps_add rfl rfl rfl ?_) ?_
                    · first | exact Nat.zero_lt_one | assumption | omega | exact InI.of (by omega) (by omega) | (simp only [ints_len, bools_len, st1_len, arcs_len, lits_len, List.length_set, List.length_append, List.length_cons, List.length_nil, List.length_replicate]; omega)
                    refine GoO.pure (ps_move rfl rfl) ?_
                    refine GoO.nil ?_
                    refine GoK.againE (steps.length - (k + 1)) (k + 1, _, _) ?_ ?_ (by repeat (first | exact EnvLe.nil | refine EnvLe.cons rfl ?_)) (by repeat (first | exact Tk.all _ | exact Tk.nil | refine Tk.cons (by first | exact Rem.p0 | exact Rem.p1 | exact Rem.p2 | exact Rem.p3 | exact Rem.p4 | exact Rem.p5 | exact Rem.p6 | exact Rem.p7 | exact Rem.p8 | exact Rem.p9 | exact Rem.p10 | exact Rem.p11 | exact Rem.p12 | exact Rem.p13) ?_))
                    · omega
                    · first | exact ⟨rfl, hlt, by omega, by omega, hp⟩ | exact ⟨rfl, hlt, by omega, by omega, by have e : (g.as.getD (steps.getD k 0 % (g.as.length : Int)).toNat ⟨0, 0, 0⟩).f = at_ := (by omega); rw [← e] at hp; omega⟩
                · skip
                  refine GoO.guardF rfl rfl rfl rfl ?_
                  refine GoO.pure (ps_pickF rfl rfl rfl) ?_
                  refine GoO.nil ?_
                  refine GoK.code ?_
                  refine GoC.condF rfl ?_
                  refine GoC.skip ?_
                  refine GoK.blk ?_
                  refine GoK.code ?_
                  refine GoC.region ?_
                  refine GoO.pure (ps_add rfl rfl rfl ?_) ?_
                  · first | exact Nat.zero_lt_one | assumption | omega | exact InI.of (by omega) (by omega) | (simp only [ints_len, bools_len, st1_len, arcs_len, lits_len, List.length_set, List.length_append, List.length_cons, List.length_nil, List.length_replicate]; omega)
                  refine GoO.pure (ps_move rfl rfl) ?_
                  refine GoO.nil ?_
                  refine GoK.againE (steps.length - (k + 1)) (k + 1, _, _) ?_ ?_ (by repeat (first | exact EnvLe.nil | refine EnvLe.cons rfl ?_)) (by repeat (first | exact Tk.all _ | exact Tk.nil | refine Tk.cons (by first | exact Rem.p0 | exact Rem.p1 | exact Rem.p2 | exact Rem.p3 | exact Rem.p4 | exact Rem.p5 | exact Rem.p6 | exact Rem.p7 | exact Rem.p8 | exact Rem.p9 | exact Rem.p10 | exact Rem.p11 | exact Rem.p12 | exact Rem.p13) ?_))
                  · omega
                  · first | exact ⟨rfl, hlt, by omega, by omega, hp⟩ | exact ⟨rfl, hlt, by omega, by omega, by have e : (g.as.getD (steps.getD k 0 % (g.as.length : Int)).toNat ⟨0, 0, 0⟩).f = at_ := (by omega); rw [← e] at hp; omega⟩
          · skip
            refine GoC.exit rfl ?_
            refine GoK.code ?_
            refine GoC.seq ?_
            refine GoC.region ?_
            refine GoO.pure (ps_assign rfl rfl) ?_
            refine GoO.nil ?_
            refine GoK.code ?_
            refine GoC.ret1 (H' := []) Try.results3 (ResD.tmp rfl) (by exact (Take.nil _)) ?_
            · exact ⟨rfl, rfl⟩
      · skip
        refine GoO.guardF rfl rfl rfl rfl ?_
        refine GoO.guardF rfl rfl rfl rfl ?_
        refine GoO.pure (ps_pickT rfl rfl rfl) ?_
        refine GoO.nil ?_
        refine GoK.code ?_
        refine GoC.condT rfl ?_
        refine GoC.seq ?_
        refine GoC.region ?_
        refine GoO.pure (ps_move rfl rfl) ?_
        first | refine GoO.pure (ps_neq rfl rfl rfl) ?_ | refine GoO.pure (ps_neqB rfl rfl rfl) ?_ | refine GoO.pure (ps_neqA rfl rfl rfl rfl) ?_
        refine GoO.pure (ps_move rfl rfl) ?_
        first | refine GoO.guardE rfl rfl rfl rfl (fun h135 => ?_) (fun h135 => ?_) | refine GoO.guard rfl rfl rfl rfl (fun h135 => ?_) (fun h135 => ?_)
        · skip
          refine GoO.pure (ps_move rfl rfl) ?_
          refine GoO.guardT rfl rfl rfl ?_
          refine GoO.pure (ps_len rfl (by constructor) rfl) ?_
          refine GoO.guardT rfl rfl rfl ?_
          first | refine GoO.pure (ps_fieldAddr rfl rfl) ?_ | refine GoO.pure (ps_fieldAddrR rfl rfl) ?_
          refine GoO.guardT rfl rfl rfl ?_
          first | refine GoO.pure (ps_load rfl (by first | exact At.p0 | exact At.p1 | exact At.p2 | exact At.p3 | exact At.p4 | exact At.p5 | exact At.p6 | exact At.p7 | exact At.p8 | exact At.p9 | exact At.p10 | exact At.p11 | exact At.p12 | exact At.p13) (by first | exact At.p0 | exact At.p1 | exact At.p2 | exact At.p3 | exact At.p4 | exact At.p5 | exact At.p6 | exact At.p7 | exact At.p8 | exact At.p9 | exact At.p10 | exact At.p11 | exact At.p12 | exact At.p13) ?_ rfl rfl) ?_ | refine GoO.pure (ps_loadR rfl ?_ rfl rfl) ?_
          · first | exact Nat.zero_lt_one | assumption | omega | exact InI.of (by omega) (by omega) | (simp only [ints_len, bools_len, st1_len, arcs_len, lits_len, List.length_set, List.length_append, List.length_cons, List.length_nil, List.length_replicate]; omega)
          refine GoO.guardT rfl rfl rfl ?_
          first | refine GoO.pure (ps_eql rfl rfl rfl) ?_ | refine GoO.pure (ps_eqlB rfl rfl rfl) ?_ | refine GoO.pure (ps_eqlA rfl rfl rfl rfl) ?_
          refine GoO.pure (ps_pickF rfl rfl rfl) ?_
          refine GoO.pure (ps_move rfl rfl) ?_
          first | refine GoO.guardE rfl rfl rfl rfl (fun h143 => ?_) (fun h143 => ?_) | refine GoO.guard rfl rfl rfl rfl (fun h143 => ?_) (fun h143 => ?_)
          · skip
            refine GoO.pure (ps_move rfl rfl) ?_
            refine GoO.guardT rfl rfl rfl ?_
            refine GoO.pure (ps_len rfl (by constructor) rfl) ?_
            refine GoO.guardT rfl rfl rfl ?_
            refine GoO.pure (ps_gtr rfl rfl rfl) ?_
            refine GoO.pure (ps_pickF rfl rfl rfl) ?_
            refine GoO.pure (ps_assign rfl rfl) ?_
            refine GoO.nil ?_
            refine GoK.code ?_
            refine GoC.ret1 (H' := []) Try.results3 (ResD.tmp rfl) (by exact (Take.nil _)) ?_
            · refine ⟨?_, rfl⟩; first | rfl | exact bo_true (by omega) | (obtain ⟨hg, hlen, _⟩ := heights_ok (Classical.not_not.1 ‹¬ (heightsF g).1 ≠ 0›); have := hg.n0; omega)
          · skip
            refine GoO.guardF rfl rfl rfl rfl ?_
            refine GoO.guardF rfl rfl rfl rfl ?_
            refine GoO.pure (ps_pickT rfl rfl rfl) ?_
            refine GoO.pure (ps_assign rfl rfl) ?_
            refine GoO.nil ?_
            refine GoK.code ?_
            refine GoC.ret1 (H' := []) Try.results3 (ResD.tmp rfl) (by exact (Take.nil _)) ?_
            · refine ⟨?_, rfl⟩; first | rfl | exact bo_true (by omega) | (obtain ⟨hg, hlen, _⟩ := heights_ok (Classical.not_not.1 ‹¬ (heightsF g).1 ≠ 0›); have := hg.n0; omega)
        · skip
          refine GoO.guardF rfl rfl rfl rfl ?_
          refine GoO.guardF rfl rfl rfl rfl ?_
          refine GoO.guardF rfl rfl rfl rfl ?_
          refine GoO.guardF rfl rfl rfl rfl ?_
          refine GoO.pure (ps_pickT rfl rfl rfl) ?_
          refine GoO.pure (ps_move rfl rfl) ?_
          refine GoO.guardF rfl rfl rfl rfl ?_
          refine GoO.guardF rfl rfl rfl rfl ?_
          refine GoO.guardF rfl rfl rfl rfl ?_
          refine GoO.pure (ps_pickT rfl rfl rfl) ?_
          refine GoO.pure (ps_assign rfl rfl) ?_
          refine GoO.nil ?_
          refine GoK.code ?_
          refine GoC.ret1 (H' := []) Try.results3 (ResD.tmp rfl) (by exact (Take.nil _)) ?_
          · refine ⟨?_, rfl⟩; first | rfl | exact bo_true (by omega) | (obtain ⟨hg, hlen, _⟩ := heights_ok (Classical.not_not.1 ‹¬ (heightsF g).1 ≠ 0›); have := hg.n0; omega)
    · skip
      refine GoO.guardF rfl rfl rfl rfl ?_
      refine GoO.guardF rfl rfl rfl rfl ?_
      refine GoO.guardF rfl rfl rfl rfl ?_
      refine GoO.pure (ps_pickT rfl rfl rfl) ?_
      refine GoO.pure (ps_move rfl rfl) ?_
      refine GoO.guardF rfl rfl rfl rfl ?_
      refine GoO.guardF rfl rfl rfl rfl ?_
      refine GoO.guardF rfl rfl rfl rfl ?_
      refine GoO.pure (ps_pickT rfl rfl rfl) ?_
      refine GoO.nil ?_
      refine GoK.code ?_
      refine GoC.condT rfl ?_
      refine GoC.seq ?_
      refine GoC.region ?_
      refine GoO.pure (ps_move rfl rfl) ?_
      first | refine GoO.pure (ps_neq rfl rfl rfl) ?_ | refine GoO.pure (ps_neqB rfl rfl rfl) ?_ | refine GoO.pure (ps_neqA rfl rfl rfl rfl) ?_
      refine GoO.pure (ps_move rfl rfl) ?_
      first | refine GoO.guardE rfl rfl rfl rfl (fun h161 => ?_) (fun h161 => ?_) | refine GoO.guard rfl rfl rfl rfl (fun h161 => ?_) (fun h161 => ?_)
      · skip
        refine GoO.pure (ps_move rfl rfl) ?_
        refine GoO.guardT rfl rfl rfl ?_
        refine GoO.pure (ps_len rfl (by constructor) rfl) ?_
        refine GoO.guardT rfl rfl rfl ?_
        first | refine GoO.pure (ps_fieldAddr rfl rfl) ?_ | refine GoO.pure (ps_fieldAddrR rfl rfl) ?_
        refine GoO.guardT rfl rfl rfl ?_
        first | refine GoO.pure (ps_load rfl (by first | exact At.p0 | exact At.p1 | exact At.p2 | exact At.p3 | exact At.p4 | exact At.p5 | exact At.p6 | exact At.p7 | exact At.p8 | exact At.p9 | exact At.p10 | exact At.p11 | exact At.p12 | exact At.p13) (by first | exact At.p0 | exact At.p1 | exact At.p2 | exact At.p3 | exact At.p4 | exact At.p5 | exact At.p6 | exact At.p7 | exact At.p8 | exact At.p9 | exact At.p10 | exact At.p11 | exact At.p12 | exact At.p13) ?_ rfl rfl) ?_ | refine GoO.pure (ps_loadR rfl ?_ rfl rfl) ?_
        · first | exact Nat.zero_lt_one | assumption | omega | exact InI.of (by omega) (by omega) | (simp only [ints_len, bools_len, st1_len, arcs_len, lits_len, List.length_set, List.length_append, List.length_cons, List.length_nil, List.length_replicate]; omega)
        refine GoO.guardT rfl rfl rfl ?_
        first | refine GoO.pure (ps_eql rfl rfl rfl) ?_ | refine GoO.pure (ps_eqlB rfl rfl rfl) ?_ | refine GoO.pure (ps_eqlA rfl rfl rfl rfl) ?_
        refine GoO.pure (ps_pickF rfl rfl rfl) ?_
        refine GoO.pure (ps_move rfl rfl) ?_
        first | refine GoO.guardE rfl rfl rfl rfl (fun h169 => ?_) (fun h169 => ?_) | refine GoO.guard rfl rfl rfl rfl (fun h169 => ?_) (fun h169 => ?_)
        · skip
          refine GoO.pure (ps_move rfl rfl) ?_
          refine GoO.guardT rfl rfl rfl ?_
          refine GoO.pure (ps_len rfl (by constructor) rfl) ?_
          refine GoO.guardT rfl rfl rfl ?_
          refine GoO.pure (ps_gtr rfl rfl rfl) ?_
          refine GoO.pure (ps_pickF rfl rfl rfl) ?_
          refine GoO.pure (ps_assign rfl rfl) ?_
          refine GoO.nil ?_
          refine GoK.code ?_
          refine GoC.ret1 (H' := []) Try.results3 (ResD.tmp rfl) (by exact (Take.nil _)) ?_
          · refine ⟨?_, rfl⟩; first | rfl | exact bo_true (by omega) | (obtain ⟨hg, hlen, _⟩ := heights_ok (Classical.not_not.1 ‹¬ (heightsF g).1 ≠ 0›); have := hg.n0; omega)
        · skip
          refine GoO.guardF rfl rfl rfl rfl ?_
          refine GoO.guardF rfl rfl rfl rfl ?_
          refine GoO.pure (ps_pickT rfl rfl rfl) ?_
          refine GoO.pure (ps_assign rfl rfl) ?_
          refine GoO.nil ?_
          refine GoK.code ?_
          refine GoC.ret1 (H' := []) Try.results3 (ResD.tmp rfl) (by exact (Take.nil _)) ?_
          · refine ⟨?_, rfl⟩; first | rfl | exact bo_true (by omega) | (obtain ⟨hg, hlen, _⟩ := heights_ok (Classical.not_not.1 ‹¬ (heightsF g).1 ≠ 0›); have := hg.n0; omega)
      · skip
        refine GoO.guardF rfl rfl rfl rfl ?_
        refine GoO.guardF rfl rfl rfl rfl ?_
        refine GoO.guardF rfl rfl rfl rfl ?_
        refine GoO.guardF rfl rfl rfl rfl ?_
        refine GoO.pure (ps_pickT rfl rfl rfl) ?_
        refine GoO.pure (ps_move rfl rfl) ?_
        refine GoO.guardF rfl rfl rfl rfl ?_
        refine GoO.guardF rfl rfl rfl rfl ?_
        refine GoO.guardF rfl rfl rfl rfl ?_
        refine GoO.pure (ps_pickT rfl rfl rfl) ?_
        refine GoO.pure (ps_assign rfl rfl) ?_
        refine GoO.nil ?_
        refine GoK.code ?_
        refine GoC.ret1 (H' := []) Try.results3 (ResD.tmp rfl) (by exact (Take.nil _)) ?_
        · refine ⟨?_, rfl⟩; first | rfl | exact bo_true (by omega) | (obtain ⟨hg, hlen, _⟩ := heights_ok (Classical.not_not.1 ‹¬ (heightsF g).1 ≠ 0›); have := hg.n0; omega)

end Go.Proofs.Ytmgldjkgneiejaa
