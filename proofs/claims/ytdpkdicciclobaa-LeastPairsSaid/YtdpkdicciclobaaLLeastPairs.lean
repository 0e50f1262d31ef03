/- LeastPairs: the law's function answers true. -/
import Derived.Test.YtdpkdicciclobaaPstoer2
import Derived.Test.YtdpkdicciclobaaKLeastPairs
namespace Go.Proofs.Ytdpkdicciclobaa
open Go Go.Proofs.Ytdpkdicciclobaa.Sx
set_option linter.unusedVariables false
set_option linter.unusedSimpArgs false
def LeastPairs_testB : Bool := match weirkeep_three_F with
  | none => false
  | some w => match least_Of_F w with
    | none => false
    | some (s, c, e) => decide (e = 0) && decide (c = 3) && decide (s = 4)
theorem LeastPairs_test : ∃ w s c e, weirkeep_three_F = some w ∧ least_Of_F w = some (s, c, e) ∧ e = 0 ∧ c = 3 ∧ s = 4 := by
  have h : LeastPairs_testB = true := by kernel_rfl
  unfold LeastPairs_testB at h
  split at h
  · cases h
  · rename_i w hw
    split at h
    · cases h
    · rename_i s c e he
      simp only [Bool.and_eq_true, decide_eq_true_eq, and_assoc] at h
      exact ⟨w, s, c, e, hw, he, h⟩
theorem LeastPairs_true (g : Graph) : weirkeep_LeastPairs_F g = some true := by
  obtain ⟨w, s, c, e, h1, h2, rfl, rfl, rfl⟩ := LeastPairs_test
  unfold weirkeep_LeastPairs_F
  rw [h1, bind_some', h2, bind_some']
  dsimp only
  rw [if_neg (by decide), if_neg (by decide), if_neg (by decide)]
  by_cases h : OkP g ∧ 2 ≤ g.n
  · obtain ⟨hg, hn⟩ := h
    have n12 := hg.ok.n1
    obtain ⟨s, c, e, c0, ⟨X, hX, eX⟩, cB⟩ := stoer_ok hg hn
    rw [e, bind_some']
    dsimp only
    rw [if_neg (by decide)]
    have hC := cuts_ok hg
    have l0 : ∀ t, t < g.n.toNat → t ≠ 0 → (fun s t => if s = t then 0 else lamF g s t) 0 t = lamF g 0 t := fun t _ ht => if_neg (fun z => ht z.symm)
    obtain ⟨q, e2, x, hq, t, t0, t1, ex, hall⟩ := loopC_or (f := weirkeep_LeastPairs_B1 g) (fun (σ : Int × Nat) => 1 ≤ σ.2 ∧ σ.2 ≤ g.n.toNat ∧ ((σ.2 = 1 ∧ σ.1 = -1) ∨ ∃ t, 1 ≤ t ∧ t < σ.2 ∧ σ.1 = lamF g 0 t ∧ 0 ≤ σ.1 ∧ ∀ u, 1 ≤ u → u < σ.2 → σ.1 ≤ lamF g 0 u))
      (fun q => ∃ x, q = .go (x, g.n.toNat) ∧ ∃ t, 1 ≤ t ∧ t < g.n.toNat ∧ x = lamF g 0 t ∧ ∀ u, 1 ≤ u → u < g.n.toNat → x ≤ lamF g 0 u) (fun σ => g.n.toNat - σ.2) (fun σ ⟨i1, i2, i3⟩ => by
      obtain ⟨x, k⟩ := σ
      dsimp only at i1 i2 i3 ⊢
      unfold weirkeep_LeastPairs_B1
      dsimp only
      by_cases q : ((k : Nat) : Int) < g.n
      · have hk : k < g.n.toNat := by omega
        obtain ⟨p1, p2⟩ := lam_max hg (s := 0) (t := k) (by omega) hk (by omega)
        have p1' : pairs_Part_F g 0 ((k : Nat) : Int) = some (lamF g 0 k, 0) := p1
        have nn := p2.nonneg (bothN_ok hg (by omega) (by omega) (by omega) (by omega) (by omega))
        rw [if_pos q, p1', bind_some']
        dsimp only
        rw [if_neg (by decide)]
        by_cases q1 : x < 0
        · rw [if_pos q1, ck_some (by unfold InI; omega)]
          refine .inl ⟨_, rfl, ⟨by dsimp only; omega, by dsimp only; omega, .inr ⟨k, i1, by dsimp only; omega, rfl, nn, fun u u1 u2 => ?_⟩⟩, by dsimp only; omega⟩
          rcases i3 with ⟨z1, z2⟩ | ⟨t, _, _, _, z, _⟩
          · have : u = k := by dsimp only at u2; omega
            subst this; exact Int.le_refl _
          · omega
        · rw [if_neg q1]
          obtain ⟨t, t1, t2, t3, t4, t5⟩ := i3.resolve_left (fun z => by omega)
          by_cases q2 : lamF g 0 k < x
          · rw [if_pos q2, ck_some (by unfold InI; omega)]
            refine .inl ⟨_, rfl, ⟨by dsimp only; omega, by dsimp only; omega, .inr ⟨k, i1, by dsimp only; omega, rfl, nn, fun u u1 u2 => ?_⟩⟩, by dsimp only; omega⟩
            dsimp only at u2 ⊢
            by_cases w : u = k
            · subst w; exact Int.le_refl _
            · have := t5 u u1 (by omega); omega
          · rw [if_neg q2, ck_some (by unfold InI; omega)]
            refine .inl ⟨_, rfl, ⟨by dsimp only; omega, by dsimp only; omega, .inr ⟨t, t1, by dsimp only; omega, t3, t4, fun u u1 u2 => ?_⟩⟩, by dsimp only; omega⟩
            dsimp only at u2 ⊢
            by_cases w : u = k
            · subst w; omega
            · exact t5 u u1 (by omega)
      · rw [if_neg q]
        have : k = g.n.toNat := by omega
        subst this
        obtain ⟨t, t1, t2, t3, t4, t5⟩ := i3.resolve_left (fun z => by omega)
        exact .inr (.inl ⟨_, rfl, x, rfl, t, t1, t2, t3, t5⟩)) (n := 1000000) (s := (-1, 1)) ⟨by dsimp only; omega, by dsimp only; omega, .inl ⟨rfl, rfl⟩⟩ (by dsimp only; omega)
    subst hq
    rw [e2, bind_some']
    dsimp only
    refine congrArg some (decide_eq_true ?_)
    -- no less
    obtain ⟨Z, z1, z2, z3⟩ := hC.att 0 t (by omega) t1 (by omega)
    rw [if_neg (show ¬ 0 = t by omega)] at z3
    have a := cB Z ⟨⟨0, by omega, z1⟩, t, t1, z2⟩
    -- no more
    obtain ⟨⟨u, hu, xu⟩, w, hw, xw⟩ := hX
    have far : ∃ y, y < g.n.toNat ∧ X 0 ≠ X y := by
      cases e0 : X 0 with
      | true => exact ⟨w, hw, by rw [xw]; decide⟩
      | false => exact ⟨u, hu, by rw [xu]; decide⟩
    obtain ⟨y, hy, hne⟩ := far
    have y0 : y ≠ 0 := fun z => hne (by rw [z])
    have b := hC.ge2 (X := X) (s := 0) (t := y) (by omega) hy hne
    rw [if_neg (fun z => y0 z.symm)] at b
    have := hall y (by omega) hy
    omega
  · obtain ⟨e, he, e1⟩ := stoer_bad h
    rw [e1, bind_some']
    dsimp only
    rw [if_pos he]
    rfl
end Go.Proofs.Ytdpkdicciclobaa
