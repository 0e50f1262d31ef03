/- EulerClosed: the law's function answers true. -/
import Derived.Test.YtblhoelmodbifaaPtrail3
import Derived.Test.YtblhoelmodbifaaKEulerClosed
namespace Go.Proofs.Ytblhoelmodbifaa
open Go Go.Proofs.Ytblhoelmodbifaa.Sx
set_option linter.unusedVariables false
set_option linter.unusedSimpArgs false
theorem roundsC_eq : weirkeep_rounds_F = some true := by kernel_rfl
theorem can_some (g : Graph) : ∃ a b, euler_Can_F g = some (a, b) := by
  by_cases hc : checkF g (-10000) = 0
  · obtain ⟨p, _, _, e⟩ := can_ok ((checkF_ok g _).1 hc)
    exact ⟨_, _, e⟩
  · exact ⟨_, _, can_bad hc⟩
theorem EulerClosed_true (g : Graph) : weirkeep_EulerClosed_F g = some true := by
  unfold weirkeep_EulerClosed_F
  rw [roundsC_eq, bind_some', if_neg (by decide)]
  by_cases h : ∃ p, Ok g ∧ euler_Can_F g = some (kindOf g p, 0) ∧ kindOf g p ≠ 0
  · obtain ⟨p, hg, hcan, hk⟩ := h
    obtain ⟨l, st, e0, e, hT, hC⟩ := trail_ok hg hcan hk
    have n0 := hg.n0; have n1 := hg.n1; have hl := hg.len
    obtain ⟨used, hfin, _⟩ := hT.fin
    have hun := un_range g used
    rw [hcan, bind_some']
    dsimp only
    rw [e, bind_some']
    dsimp only
    rw [if_neg (by decide)]
    by_cases hz : ((l.length : Nat) : Int) = 0
    · rw [if_pos hz, if_pos rfl]
    rw [if_neg hz]
    by_cases hm : ((g.as.length : Nat) : Int) = 60
    · rw [if_pos hm, if_pos rfl]
    have r0 := hT.rg 0 (by omega)
    have r1 := hT.rg (l.length - 1) (by omega)
    have en : (((l.length : Nat) : Int) - 1).toNat = l.length - 1 := by omega
    have hF : (g.as.getD (l.getD 0 0).toNat El.d).f = st := hT.first (by omega)
    have hE : (g.as.getD (l.getD (l.length - 1) 0).toNat El.d).t = e0 := hT.last (by omega)
    rw [if_neg hm, ck_some (by omega), ck_some (inI_small (by omega) (by omega)), ck_some (by omega), en, if_neg (by omega), if_neg (by omega), ck_some r1, ck_some r0, clone_eq (by omega), bind_some', ck_some (by omega), hF, hE]
    have aF := hg.arc _ (mem_getD (d := El.d) (show (l.getD 0 0).toNat < g.as.length by omega))
    have aL := hg.arc _ (mem_getD (d := El.d) (show (l.getD (l.length - 1) 0).toNat < g.as.length by omega))
    have f0 := aF.f0; have f1 := aF.f1; have t0 := aL.t0; have t1 := aL.t1
    rw [hF] at f0 f1
    rw [hE] at t0 t1
    have hmore : Ok ⟨g.n, g.as ++ [⟨e0, st, 0⟩]⟩ := ⟨n0, n1, by simp only [List.length_append, List.length_singleton]; omega, fun a ha => by
      rcases List.mem_append.1 ha with ha | ha
      · exact hg.arc a ha
      · rw [List.mem_singleton.1 ha]; exact ⟨t0, t1, f0, f1, by dsimp only; omega, by dsimp only; omega⟩⟩
    obtain ⟨p', _, hP', e2⟩ := can_ok hmore
    have hexc : ∀ x, exc (g.as ++ [(⟨e0, st, 0⟩ : Arc)]) x = 0 := fun x => by
      have hb := hT.bal x
      unfold exc at hb ⊢
      rw [outs_snoc, inns_snoc]
      dsimp only
      by_cases p1 : x = st <;> by_cases p2 : x = e0
      · rw [if_pos p1, if_pos p2] at hb
        rw [if_pos (show e0 = x from p2.symm), if_pos (show st = x from p1.symm)]; omega
      · rw [if_pos p1, if_neg p2] at hb
        rw [if_neg (show ¬ e0 = x from fun z => p2 z.symm), if_pos (show st = x from p1.symm)]; omega
      · rw [if_neg p1, if_pos p2] at hb
        rw [if_pos (show e0 = x from p2.symm), if_neg (show ¬ st = x from fun z => p1 z.symm)]; omega
      · rw [if_neg p1, if_neg p2] at hb
        rw [if_neg (show ¬ e0 = x from fun z => p2 z.symm), if_neg (show ¬ st = x from fun z => p1 z.symm)]; omega
    have hconst : ∀ a, a ∈ g.as → atI p' a.f = atI p' a.t := fun a ha => hP'.arc a (List.mem_append_left _ ha)
    obtain ⟨p2, _, hP, ecan⟩ := can_ok hg
    have hC2 : Conn g.as p2 := by
      have : kindOf g p2 = kindOf g p := by
        rw [hcan] at ecan
        exact (congrArg Prod.fst (Option.some.inj ecan)).symm
      exact Classical.byContradiction fun z => hk (by rw [← this]; exact if_neg fun w => z w.2)
    have hsame : ∀ a, a ∈ g.as → atI p' a.f = atI p' (g.as.getD 0 El.d).f := fun a ha => by
      have hA := hg.arc a ha
      have h0 := hg.arc _ (mem_getD (d := El.d) (show 0 < g.as.length by omega))
      have j1 := hP.pi.joined (atI p') hconst a.f hA.f0 hA.f1
      have j2 := hP.pi.joined (atI p') hconst (g.as.getD 0 El.d).f h0.f0 h0.f1
      rw [← j1, ← j2, hC2 a ha]
    have hget0 : (g.as ++ [(⟨e0, st, 0⟩ : Arc)]).getD 0 El.d = g.as.getD 0 El.d := by
      rw [List.getD_eq_getElem?_getD, List.getD_eq_getElem?_getD, List.getElem?_append_left (by omega)]
    have hkind : kindOf ⟨g.n, g.as ++ [⟨e0, st, 0⟩]⟩ p' = 2 := by
      have hc0 : cntD (g.as ++ [(⟨e0, st, 0⟩ : Arc)]) 1 g.n.toNat = 0 := by
        unfold cntD
        refine Nat.eq_zero_of_not_pos fun hp => ?_
        obtain ⟨x, _, ex⟩ := cnt_ex hp
        have := of_decide_eq_true ex
        rw [hexc] at this
        exact absurd this (by decide)
      unfold kindOf
      dsimp only
      rw [if_pos ⟨fun x _ => by rw [hexc]; omega, fun a ha => by
        rw [hget0]
        rcases List.mem_append.1 ha with ha | ha
        · exact hsame a ha
        · rw [List.mem_singleton.1 ha]
          dsimp only
          have hm := mem_getD (d := El.d) (show (l.getD (l.length - 1) 0).toNat < g.as.length by omega)
          have := hsame _ hm
          rw [hconst _ hm, hE] at this
          exact this⟩, if_pos hc0]
    rw [e2, bind_some']
    dsimp only
    rw [if_pos rfl, hkind, if_pos rfl]
    refine congrArg some (decide_eq_true ?_)
    have hr := hT.round
    by_cases c : kindOf g p = 2
    · rw [decide_eq_true c, decide_eq_true (hr.1 c).symm]
    · rw [decide_eq_false c, decide_eq_false fun z => c (hr.2 z.symm)]
  · obtain ⟨a, b, e1⟩ := can_some g
    obtain ⟨e, he, e2⟩ := trail_none h
    rw [e1, bind_some']
    dsimp only
    rw [e2, bind_some']
    dsimp only
    rw [if_pos he, if_neg he]
    rfl
end Go.Proofs.Ytblhoelmodbifaa
