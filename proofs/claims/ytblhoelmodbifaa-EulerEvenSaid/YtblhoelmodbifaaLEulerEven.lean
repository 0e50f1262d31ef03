/- EulerEven: the law's function answers true. -/
import Derived.Test.YtblhoelmodbifaaPeuler
import Derived.Test.YtblhoelmodbifaaKEulerEven
namespace Go.Proofs.Ytblhoelmodbifaa
open Go Go.Proofs.Ytblhoelmodbifaa.Sx
set_option linter.unusedVariables false
set_option linter.unusedSimpArgs false
theorem roundsE_eq : weirkeep_rounds_F = some true := by kernel_rfl
theorem cnt_unlike {l : List Arc} : ∀ {n : Nat}, Near l n → cnt (fun x => decide (outs l (x : Int) ≠ inns l (x : Int))) n = cntD l 1 n + cntD l (-1) n
  | 0, _ => rfl
  | n + 1, h => by
    have ih := cnt_unlike (n := n) fun x hx => h x (by omega)
    have hn := h n (by omega)
    have ed : exc l n = outs l n - inns l n := rfl
    unfold cntD at *
    simp only [cnt, ih]
    by_cases h1 : exc l n = 1
    · have : outs l n ≠ inns l n := by omega
      simp [h1, this]; omega
    · by_cases h2 : exc l n = -1
      · have : outs l n ≠ inns l n := by omega
        simp [h2, this]; omega
      · have h3 : exc l n = 0 := by omega
        have : outs l n = inns l n := by omega
        simp [h3, this]
theorem unlike_loop {g : Graph} (hg : Ok g) : forN (weirkeep_EulerEven_B1 (nodes (outs g.as) g.n) (nodes (inns g.as) g.n)) (nodes (outs g.as) g.n).length 0 0 = some (cnt (fun x => decide (outs g.as (x : Int) ≠ inns g.as (x : Int))) g.n.toNat) := by
  have n1 := hg.n1
  obtain ⟨s, e, h⟩ := forN_inv (f := weirkeep_EulerEven_B1 (nodes (outs g.as) g.n) (nodes (inns g.as) g.n)) (fun j s => s = cnt (fun x => decide (outs g.as (x : Int) ≠ inns g.as (x : Int))) j) (n := (nodes (outs g.as) g.n).length) (k := 0) (s := 0) rfl fun j s _ hj hs => by
    have hj' : j < g.n.toNat := by rw [nodes_len] at hj; omega
    have hc := cnt_le (fun x => decide (outs g.as (x : Int) ≠ inns g.as (x : Int))) j
    unfold weirkeep_EulerEven_B1
    rw [ck_some (by rw [nodes_len]; exact hj'), nodes_getD _ hj', nodes_getD _ hj']
    simp only [cnt]
    by_cases h : outs g.as j = inns g.as j
    · exact ⟨s, by rw [if_neg (fun z => z h)], by simp [h, hs]⟩
    · exact ⟨s + 1, by rw [if_pos h, ck_some (inI_small (by omega) (by omega))], by simp [h, hs]⟩
  rw [e, h, Nat.zero_add, nodes_len]
theorem EulerEven_true (g : Graph) : weirkeep_EulerEven_F g = some true := by
  unfold weirkeep_EulerEven_F
  rw [roundsE_eq, bind_some', if_neg (by decide)]
  by_cases h : checkF g (-10000) = 0
  · have hg := (checkF_ok g _).1 h
    obtain ⟨p, _, hP, e⟩ := can_ok hg
    rw [e, bind_some']
    dsimp only
    rw [degrees_ok hg, bind_some']
    dsimp only
    rw [if_neg (by decide), if_neg (by decide)]
    by_cases hk : kindOf g p = 0
    · rw [if_pos hk, if_pos rfl]
      exact congrArg some (decide_eq_true hk)
    · rw [if_neg hk, unlike_loop hg, bind_some']
      unfold kindOf at hk ⊢
      by_cases hc : Near g.as g.n.toNat ∧ Conn g.as p
      · have hs := near_same hg hc.1
        rw [if_pos hc] at hk ⊢
        rw [cnt_unlike hc.1, ← hs]
        by_cases c0 : cntD g.as 1 g.n.toNat = 0
        · rw [if_pos c0, if_pos rfl, if_pos (by omega)]
        · rw [if_neg c0] at hk ⊢
          by_cases c1 : cntD g.as 1 g.n.toNat = 1
          · rw [if_pos c1, if_neg (by decide), if_pos rfl]
            exact congrArg some (decide_eq_true (by omega))
          · rw [if_neg c1] at hk; exact absurd rfl hk
      · rw [if_neg hc] at hk; exact absurd rfl hk
  · rw [can_bad h, bind_some']
    dsimp only
    rw [degrees_bad h, bind_some']
    dsimp only
    rw [if_pos h, if_pos rfl]; rfl
end Go.Proofs.Ytblhoelmodbifaa
