/- CheapNone: the law's function answers true. -/
import Derived.Test.YtlelfifbmckhgaaPcheap2
import Derived.Test.YtlelfifbmckhgaaPmulti
import Derived.Test.YtlelfifbmckhgaaKCheapNone
namespace Go.Proofs.Ytlelfifbmckhgaa
open Go Go.Proofs.Ytlelfifbmckhgaa.Sx
set_option linter.unusedVariables false
set_option linter.unusedSimpArgs false
theorem boughtN_ok : weirkeep_bought_F = some true := by kernel_rfl
theorem cost_cases (n : Net) (cost f : List Int) : (CheapOk n cost ∧ Flow n f ∧ cheap_Cost_F n cost f = some (costF n cost f, 0)) ∨ ∃ e, e ≠ 0 ∧ cheap_Cost_F n cost f = some (0, e) := by
  unfold cheap_Cost_F
  rcases cheapCheck_cases n cost with ⟨hc, e⟩ | ⟨_, e, he, h⟩
  · rw [e, bind_some', if_neg (by decide)]
    rcases flowCheck_cases n f with ⟨hf, e2⟩ | ⟨_, e2, he2, h2⟩
    · rw [e2, bind_some', if_neg (by decide)]
      refine .inl ⟨hc, hf, ?_⟩
      have hl := hf.len; have hcl := hc.len; have m30 := hc.m30
      have each : ∀ k, k < n.as.length → 0 ≤ f.getD k 0 * cost.getD k 0 ∧ f.getD k 0 * cost.getD k 0 ≤ 10000000 := fun k hk => by
        have r1 := hf.r k (by rw [hf.len]; exact hk)
        have r2 := hc.rg k
        have hG := hc.net.arc hk
        have c1 := hG.c1
        refine ⟨Int.mul_nonneg r1.1 r2.1, ?_⟩
        have : f.getD k 0 * cost.getD k 0 ≤ 10000 * 1000 := Int.mul_le_mul (by omega) r2.2 r2.1 (by decide)
        omega
      obtain ⟨x, e3, h3, _⟩ := forN_inv (f := cheap_Cost_B1 cost f) (fun j (x : Int) => x = tot (fun k => f.getD k 0 * cost.getD k 0) j ∧ 0 ≤ x ∧ x ≤ 10000000 * (j : Int)) (n := f.length) (k := 0) (s := 0) ⟨rfl, Int.le_refl _, by omega⟩ fun j x _ hj ⟨i1, i2, i3⟩ => by
        have := each j (by omega)
        unfold cheap_Cost_B1
        rw [ck_some (by omega), ck_some (inI_small (by omega) (by omega)), ck_some (inI_small (by omega) (by omega))]
        exact ⟨_, rfl, by rw [i1]; rfl, by omega, by omega⟩
      rw [e3, bind_some', h3, Nat.zero_add, hl]
      rfl
    · rw [h2, bind_some', if_pos he2]
      exact .inr ⟨e2, he2, rfl⟩
  · rw [h, bind_some', if_pos he]
    exact .inr ⟨e, he, rfl⟩
theorem CheapNone_true (n : Net) (cost f : List Int) : weirkeep_CheapNone_F n cost f = some true := by
  unfold weirkeep_CheapNone_F
  rw [boughtN_ok, bind_some', if_neg (by decide)]
  have vany : ∃ v e, flow_Value_F n f = some (v, e) := by
    by_cases hf : Flow n f
    · exact ⟨_, _, value_ok hf⟩
    · obtain ⟨e, _, h⟩ := value_bad hf
      exact ⟨_, _, h⟩
  rcases cost_cases n cost f with ⟨hc, hf, ec⟩ | ⟨e, he, ec⟩
  · rw [ec, bind_some']
    dsimp only
    have hv := hf.value_le n.s
    have hbst : ∃ hr he, short_Heights_F ⟨n.n, leftN n cost f n.as.length⟩ = some (hr, he) ∧ cheap_Best_F n cost f = some (decide (he = 0), 0) := by
      have hany : ∃ hr he, short_Heights_F ⟨n.n, leftN n cost f n.as.length⟩ = some (hr, he) := by
        rcases heights_cases (left_ok (f := f) hc) with h | ⟨h, e, _⟩
        · exact ⟨_, _, h⟩
        · exact ⟨_, _, e⟩
      obtain ⟨hr, he, hh⟩ := hany
      refine ⟨hr, he, hh, ?_⟩
      unfold cheap_Best_F
      rw [ec, bind_some']
      dsimp only
      rw [if_neg (by decide), left_eq hc hf.len, bind_some', hh, bind_some']
    obtain ⟨hr, he, hh, eb⟩ := hbst
    rw [eb, bind_some']
    dsimp only
    rw [value_ok hf, bind_some']
    dsimp only
    rw [if_neg (by decide), if_neg (by decide)]
    by_cases c : netAt n.as f n.s < 0
    · rw [if_pos c, if_pos rfl, if_pos rfl]
    · rw [if_neg c]
      rcases of_cheap hc (amount := netAt n.as f n.s) (by omega) (by omega) with ⟨g, d, e, h⟩ | ⟨_, no⟩
      · rw [e, bind_some']
        dsimp only
        obtain ⟨h', hp, _⟩ := h.pot
        have opt := hp.opt h.flow hf
        rw [h.cst, h.val, Int.sub_self, Int.mul_zero] at opt
        rw [if_pos rfl, if_pos rfl, if_pos (by omega)]
        have iff : he = 0 ↔ d = costF n cost f := by
          constructor
          · intro z
            rcases heights_cases (left_ok (f := f) hc) with h2 | ⟨h2, e2, hH⟩
            · rw [hh] at h2
              injection h2 with h2
              have : he = 6 := congrArg Prod.snd h2
              omega
            · have := (Pot.of_arc hH.arc).opt hf h.flow
              rw [h.cst, h.val, Int.sub_self, Int.mul_zero] at this
              omega
          · intro z
            have hd := cost_diff (cost := cost) h.flow hf (ht h')
            rw [h.cst, h.val, Int.sub_self, Int.mul_zero, ← z] at hd
            have each : ∀ k, k < n.as.length → 0 ≤ (f.getD k 0 - g.getD k 0) * (cost.getD k 0 + ht h' (n.as.getD k El.d).f - ht h' (n.as.getD k El.d).t) := fun k hk => by
              have := hp k hk
              have r1 := h.flow.r k (by rw [h.flow.len]; exact hk)
              have r2 := hf.r k (by rw [hf.len]; exact hk)
              rcases Int.lt_trichotomy (g.getD k 0) (f.getD k 0) with c | c | c
              · exact Int.mul_nonneg (by omega) (by have := this.1 (by omega); omega)
              · rw [c, Int.sub_self, Int.zero_mul]; exact Int.le_refl _
              · have a := this.2 (by omega)
                have := Int.mul_nonneg (a := g.getD k 0 - f.getD k 0) (b := ht h' (n.as.getD k El.d).t - ht h' (n.as.getD k El.d).f - cost.getD k 0) (by omega) (by omega)
                rw [← Int.neg_mul_neg, show -(f.getD k 0 - g.getD k 0) = g.getD k 0 - f.getD k 0 by omega, show -(cost.getD k 0 + ht h' (n.as.getD k El.d).f - ht h' (n.as.getD k El.d).t) = ht h' (n.as.getD k El.d).t - ht h' (n.as.getD k El.d).f - cost.getD k 0 by omega]
                exact this
            have zero := tot_eq_each (f := fun _ => 0) (g := fun k => (f.getD k 0 - g.getD k 0) * (cost.getD k 0 + ht h' (n.as.getD k El.d).f - ht h' (n.as.getD k El.d).t)) each (by rw [hd, tot_const]; omega)
            have hp' : Pot n cost f h' := hp.tight fun k hk hne => by
              have := zero k hk
              rcases Int.mul_eq_zero.1 this.symm with q | q <;> omega
            obtain ⟨h2, e2⟩ := heights_pot (left_ok (f := f) hc) hp'.arc
            rw [hh] at e2
            injection e2 with e2
            exact congrArg Prod.snd e2
        refine congrArg some (decide_eq_true ?_)
        by_cases q : he = 0
        · rw [decide_eq_true q, decide_eq_true (iff.1 q)]
        · rw [decide_eq_false q, decide_eq_false fun z => q (iff.2 z)]
      · exfalso
        have := no f hf
        omega
  · obtain ⟨v, ev, hv⟩ := vany
    have eb : cheap_Best_F n cost f = some (false, e) := by
      unfold cheap_Best_F
      rw [ec, bind_some']
      dsimp only
      rw [if_pos he]
    rw [ec, bind_some']
    dsimp only
    rw [eb, bind_some']
    dsimp only
    rw [hv, bind_some']
    dsimp only
    rw [if_pos he, if_pos rfl, if_neg he, if_pos rfl]
    rfl
end Go.Proofs.Ytlelfifbmckhgaa
