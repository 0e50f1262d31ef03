/- CheapRises: the law's function answers true. -/
import Derived.Test.YtlelfifbmckhgaaPcheap2
import Derived.Test.YtlelfifbmckhgaaPref
import Derived.Test.YtlelfifbmckhgaaKCheapRises
namespace Go.Proofs.Ytlelfifbmckhgaa
open Go Go.Proofs.Ytlelfifbmckhgaa.Sx
set_option linter.unusedVariables false
set_option linter.unusedSimpArgs false
theorem bought_ok : weirkeep_bought_F = some true := by kernel_rfl
theorem CheapRises_true (n : Net) (cost : List Int) (amount : Int) : weirkeep_CheapRises_F n cost amount = some true := by
  unfold weirkeep_CheapRises_F
  obtain ⟨r, er, r0, r1⟩ := rest_ok (n := amount) (m := 200) (by decide) (by decide)
  rw [bought_ok, bind_some', if_neg (by decide), er, bind_some', ck_some (inI_small (by omega) (by omega)), ck_some (inI_small (by omega) (by omega))]
  by_cases hc : CheapOk n cost
  · have hz := flow_zero hc.net
    have z0 : ∀ f s, CheapF n cost f 0 s → s = 0 := fun f s h => by
      obtain ⟨hh, hp, _⟩ := h.pot
      have c0 : costF n cost (List.replicate n.as.length 0) = 0 := tot_zero fun k hk => by
        rw [getD_replicate']; split <;> rw [Int.zero_mul]
      have v0 : netAt n.as (List.replicate n.as.length 0) n.s = 0 := tot_zero fun k hk => by
        unfold term
        rw [getD_replicate', if_pos hk]
        split <;> split <;> rfl
      have := hp.opt h.flow hz
      rw [c0, v0, h.val, Int.sub_self, Int.mul_zero] at this
      have := cost_rg hc h.flow
      have := h.cst
      omega
    have up : ∀ f g s s' v w, CheapF n cost f v s → CheapF n cost g w s' → ∃ d, 0 ≤ d ∧ s + d * (w - v) ≤ s' := fun f g s s' v w h1 h2 => by
      obtain ⟨hh, hp, hle⟩ := h1.pot
      have := hp.opt h1.flow h2.flow
      rw [h1.cst, h2.cst, h1.val, h2.val] at this
      exact ⟨_, by omega, this⟩
    rcases of_cheap hc (amount := 1 + r) (by omega) (by omega) with ⟨f2, b, e2, h2⟩ | ⟨e2, no2⟩
    · rcases of_cheap hc (amount := 1 + r + 1) (by omega) (by omega) with ⟨f3, c, e3, h3⟩ | ⟨e3, no3⟩
      · rcases of_cheap hc (amount := 1 + r - 1) (by omega) (by omega) with ⟨f1, a, e1, h1⟩ | ⟨e1, no1⟩
        · rw [e1, bind_some']
          dsimp only
          rw [e2, bind_some']
          dsimp only
          rw [ck_some (inI_small (by omega) (by omega)), e3, bind_some']
          dsimp only
          have b1 := cost_rg hc h1.flow; have b2 := cost_rg hc h2.flow; have b3 := cost_rg hc h3.flow
          rw [h1.cst] at b1; rw [h2.cst] at b2; rw [h3.cst] at b3
          have key : a ≤ b ∧ b - a ≤ c - b := by
            obtain ⟨hh, hp, hle⟩ := h2.pot
            have o1 := hp.opt h2.flow h1.flow
            have o3 := hp.opt h2.flow h3.flow
            rw [h2.cst, h1.cst, h2.val, h1.val, show 1 + r - 1 - (1 + r) = -1 by omega] at o1
            rw [h2.cst, h3.cst, h2.val, h3.val, show 1 + r + 1 - (1 + r) = 1 by omega, Int.mul_one] at o3
            rw [Int.mul_neg, Int.mul_one] at o1
            obtain ⟨d, d0, hd⟩ := up _ _ _ _ _ _ h1 h2
            rw [show 1 + r - (1 + r - 1) = 1 by omega, Int.mul_one] at hd
            omega
          rw [if_neg (by decide), if_neg (by decide), if_pos rfl, ck_some (inI_small (by omega) (by omega)), if_pos (by omega), ck_some (inI_small (by omega) (by omega)), if_pos (by omega)]
          by_cases q : 1 < 1 + r
          · rw [if_pos q]
          · rw [if_neg q]
            have er0 : r = 0 := by omega
            subst er0
            exact congrArg some (decide_eq_true (z0 _ _ (by simpa using h1)))
        · exfalso
          have := no1 _ h2.flow
          have := h2.val
          omega
      · rcases of_cheap hc (amount := 1 + r - 1) (by omega) (by omega) with ⟨f1, a, e1, h1⟩ | ⟨e1, no1⟩
        · rw [e1, bind_some']
          dsimp only
          rw [e2, bind_some']
          dsimp only
          rw [ck_some (inI_small (by omega) (by omega)), e3, bind_some']
          dsimp only
          rw [if_neg (by decide), if_pos (by decide), if_pos rfl]
        · rw [e1, bind_some']
          dsimp only
          rw [e2, bind_some']
          dsimp only
          rw [ck_some (inI_small (by omega) (by omega)), e3, bind_some']
          dsimp only
          rw [if_neg (by decide), if_pos (by decide), if_pos rfl]
    · have any : ∀ m, 0 ≤ m → m ≤ 1000 → ∃ l s e, cheap_Of_F n cost m = some (l, s, e) := fun m h0 h1 => by
        rcases of_cheap hc (amount := m) h0 (by omega) with ⟨f1, a, e1, h1⟩ | ⟨e1, no1⟩
        · exact ⟨_, _, _, e1⟩
        · exact ⟨_, _, _, e1⟩
      obtain ⟨l1, s1, x1, e1⟩ := any (1 + r - 1) (by omega) (by omega)
      obtain ⟨l3, s3, x3, e3⟩ := any (1 + r + 1) (by omega) (by omega)
      rw [e1, bind_some']
      dsimp only
      rw [e2, bind_some']
      dsimp only
      rw [ck_some (inI_small (by omega) (by omega)), e3, bind_some']
      dsimp only
      rw [if_pos (by decide), if_neg (by decide)]
      rfl
  · obtain ⟨e, he, h0, h1⟩ := of_cheap_bad hc (1 + r - 1)
    obtain ⟨e', he', h0', h2⟩ := of_cheap_bad hc (1 + r)
    obtain ⟨e'', he'', h0'', h3⟩ := of_cheap_bad hc (1 + r + 1)
    rw [h1, bind_some']
    dsimp only
    rw [h2, bind_some']
    dsimp only
    rw [ck_some (inI_small (by omega) (by omega)), h3, bind_some']
    dsimp only
    rw [if_pos he', if_neg he']
    rfl
end Go.Proofs.Ytlelfifbmckhgaa
