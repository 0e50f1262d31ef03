/- The law BlossomHalf in plain words: a greedy matching has at least half as many. -/
import Derived.Test.YtdjllkoljpjohaaPblossom3
import Derived.Test.YtdjllkoljpjohaaKBlossomHalf
namespace Go.Proofs.Ytdjllkoljpjohaa
open Go Go.Proofs.Ytdjllkoljpjohaa.Sx
set_option linter.unusedVariables false
set_option linter.unusedSimpArgs false
def addS (set k : Nat) : Nat := if inS set k = true then set else set + 2 ^ k
theorem bitU_table : ∀ set : Fin 512, ∀ k : Fin 9, bitsOf .and .u16 (Int.fdiv ((set.val : Nat) : Int) (2 ^ min k.val 16)) 1 = if inS set.val k.val = true then 1 else 0 := by decide +kernel
theorem bitU {set k : Nat} (hs : set < 512) (hk : k < 9) : bitsOf .and .u16 (Int.fdiv ((set : Nat) : Int) (2 ^ min k 16)) 1 = if inS set k = true then 1 else 0 := bitU_table ⟨set, hs⟩ ⟨k, hk⟩
theorem orU_table : ∀ set : Fin 512, ∀ k j : Fin 9, bitsOf .or .u16 ((set.val : Nat) : Int) (bitsOf .or .u16 (IntKind.u16.wrap (1 * 2 ^ min k.val 16)) (IntKind.u16.wrap (1 * 2 ^ min j.val 16))) = ((addS (addS set.val k.val) j.val : Nat) : Int) := by decide +kernel
theorem orU {set k j : Nat} (hs : set < 512) (hk : k < 9) (hj : j < 9) : bitsOf .or .u16 ((set : Nat) : Int) (bitsOf .or .u16 (IntKind.u16.wrap (1 * 2 ^ min k 16)) (IntKind.u16.wrap (1 * 2 ^ min j 16))) = ((addS (addS set k) j : Nat) : Int) := orU_table ⟨set, hs⟩ ⟨k, hk⟩ ⟨j, hj⟩
theorem addS_table : ∀ set : Fin 512, ∀ k : Fin 9, addS set.val k.val < 512 := by decide +kernel
theorem addS_lt {set k : Nat} (hs : set < 512) (hk : k < 9) : addS set k < 512 := addS_table ⟨set, hs⟩ ⟨k, hk⟩
theorem inAdd_table : ∀ set : Fin 512, ∀ k j : Fin 9, inS (addS set.val k.val) j.val = (inS set.val j.val || decide (j.val = k.val)) := by decide +kernel
theorem inAdd {set k j : Nat} (hs : set < 512) (hk : k < 9) (hj : j < 9) : inS (addS set k) j = (inS set j || decide (j = k)) := inAdd_table ⟨set, hs⟩ ⟨k, hk⟩ ⟨j, hj⟩
theorem MatS.less {E : Nat → Nat → Prop} (hE : ∀ u v, E u v → E v u) {S k x : Nat} (h : MatS E S k) (hS : S < 512) (hx : x < 9) (hin : inS S x = true) : ∃ k', MatS E (dropS S x) k' ∧ k ≤ k' + 1 := by
  rcases h.split hE hS hx hin with h | ⟨v, k', rfl, hv, _, _, _, hm⟩
  · exact ⟨k, h, by omega⟩
  · refine ⟨k', hm.keep (drop_lt (drop_lt hS)) (drop_lt hS) fun y hy hin => ?_, by omega⟩
    rw [inDrop (drop_lt hS) hv hy] at hin
    simp only [Bool.and_eq_true] at hin
    exact hin.1
theorem blossoms_ok : weirkeep_blossoms_F = some true := by kernel_rfl
theorem BlossomHalf_true (g : Graph) : weirkeep_BlossomHalf_F g = some true := by
  unfold weirkeep_BlossomHalf_F
  rw [blossoms_ok, bind_some', if_neg (by decide)]
  by_cases h : Ok g ∧ g.n ≤ 9
  · obtain ⟨hg, hn⟩ := h
    have n0 := hg.n0
    have hlen := hg.len
    obtain ⟨l, e, hM⟩ := most_pass hg hn
    have hf : ∀ y, y < 9 → inS (2 ^ g.n.toNat - 1) y = decide (y < g.n.toNat) := fun y hy => full_in (by omega) hy
    have ht := two_table ⟨g.n.toNat, by omega⟩
    dsimp only at ht
    obtain ⟨_, t2, t3⟩ := ht
    rw [e, bind_some']
    dsimp only
    rw [if_neg (by decide)]
    generalize hN : 2 ^ g.n.toNat - 1 = N at *
    have hN5 : N < 512 := by omega
    obtain ⟨⟨x, n⟩, e2, U, F, h1, h2, h3, h4, h5, h6, h7, h8⟩ := forN_inv (f := weirkeep_BlossomHalf_B1 g) (fun j (τ : Int × Nat) => ∃ U F : Nat, τ.1 = (U : Int) ∧ U < 512 ∧ F < 512 ∧ (∀ y, y < 9 → inS F y = (inS N y && !inS U y)) ∧ (∀ k, MatS (EB g) F k → MatS (EB g) N (k + τ.2)) ∧ (∀ k, MatS (EB g) N k → ∃ k', MatS (EB g) F k' ∧ k ≤ k' + 2 * τ.2) ∧ τ.2 ≤ j ∧ ∀ i u v, i < j → u < 9 → v < 9 → joinsB g i u v → u ≠ v → inS F u = true → inS F v = true → False) (n := g.as.length) (k := 0) (s := (0, 0)) ⟨0, N, rfl, by decide, hN5, fun y hy => by
        have : inS 0 y = false := by simp [inS]
        rw [this]; simp, fun k hk => hk, fun k hk => ⟨k, hk, by omega⟩, Nat.le_refl _, fun i u v hi => absurd hi (by omega)⟩ fun j τ _ hj ⟨U, F, i1, i2, i3, i4, i5, i6, i7, i8⟩ => by
      obtain ⟨x, n⟩ := τ
      dsimp only at i1 i2 i3 i4 i5 i6 i7 i8
      subst i1
      have hj' : j < g.as.length := by omega
      have hA := hg.arc _ (mem_getD (d := El.d) hj')
      have f0 := hA.f0; have f1 := hA.f1; have t0 := hA.t0; have t1' := hA.t1
      unfold weirkeep_BlossomHalf_B1
      dsimp only
      obtain ⟨p, hp⟩ : ∃ p : Nat, (g.as.getD j El.d).f = (p : Int) := ⟨(g.as.getD j El.d).f.toNat, by omega⟩
      obtain ⟨q, hq⟩ : ∃ q : Nat, (g.as.getD j El.d).t = (q : Int) := ⟨(g.as.getD j El.d).t.toNat, by omega⟩
      have ends : ∀ u v, joinsB g j u v → (u = p ∧ v = q) ∨ (u = q ∧ v = p) := fun u v h => by
        rcases h with ⟨a, b⟩ | ⟨a, b⟩ <;> omega
      have keep : (∀ u v, u < 9 → v < 9 → joinsB g j u v → u ≠ v → inS F u = true → inS F v = true → False) → ∀ i u v, i < j + 1 → u < 9 → v < 9 → joinsB g i u v → u ≠ v → inS F u = true → inS F v = true → False := fun hjj i u v hi hu hv hjn hne a b => by
        by_cases e : i = j
        · subst e; exact hjj u v hu hv hjn hne a b
        · exact i8 i u v (by omega) hu hv hjn hne a b
      rw [hp, hq, Int.toNat_natCast, Int.toNat_natCast, ck_some (Int.natCast_nonneg _), ck_some (Int.natCast_nonneg _)]
      by_cases c1 : ((p : Nat) : Int) ≠ ((q : Nat) : Int)
      · rw [if_pos c1, bitU i2 (by omega), bitU i2 (by omega)]
        have pF := i4 p (by omega)
        have qF := i4 q (by omega)
        have pn : inS N p = true := by rw [hf p (by omega)]; exact decide_eq_true (by omega)
        have qn : inS N q = true := by rw [hf q (by omega)]; exact decide_eq_true (by omega)
        cases hin : inS U p with
        | true =>
          rw [if_pos rfl, if_neg (by decide)]
          rw [hin] at pF
          exact ⟨_, rfl, U, F, rfl, i2, i3, i4, i5, i6, by omega, keep fun u v _ _ hjn _ a b => by
            rcases ends u v hjn with ⟨rfl, rfl⟩ | ⟨rfl, rfl⟩
            · rw [pF] at a; simp at a
            · rw [pF] at b; simp at b⟩
        | false =>
          rw [if_neg (show ¬ (false = true) from by decide), if_pos rfl]
          cases hin2 : inS U q with
          | true =>
            rw [if_pos rfl, if_neg (by decide)]
            rw [hin2] at qF
            exact ⟨_, rfl, U, F, rfl, i2, i3, i4, i5, i6, by omega, keep fun u v _ _ hjn _ a b => by
              rcases ends u v hjn with ⟨rfl, rfl⟩ | ⟨rfl, rfl⟩
              · rw [qF] at b; simp at b
              · rw [qF] at a; simp at a⟩
          | false =>
            rw [if_neg (show ¬ (false = true) from by decide), if_pos rfl, ck_some (inI_small (by omega) (by omega)), orU i2 (by omega) (by omega)]
            have hpq : p ≠ q := fun e => c1 (by rw [e])
            have hE : EB g p q := ⟨j, hj', .inl ⟨hp, hq⟩⟩
            have pF' : inS F p = true := by rw [pF, pn, hin]; rfl
            have qF' : inS F q = true := by rw [qF, qn, hin2]; rfl
            have ip : inS (dropS F p) q = true := by
              rw [inDrop i3 (by omega) (by omega), qF']
              simp only [Bool.true_and, decide_eq_true_eq]
              exact fun z => hpq z.symm
            have dp := drop_lt (k := p) i3
            refine ⟨_, rfl, _, dropS (dropS F p) q, rfl, addS_lt (addS_lt i2 (by omega)) (by omega), drop_lt dp, fun y hy => ?_, fun k hk => ?_, fun k hk => ?_, by dsimp only; omega, fun i u v hi hu hv hjn hne a b => ?_⟩
            · rw [inDrop dp (by omega) hy, inDrop i3 (by omega) hy, inAdd (addS_lt i2 (by omega)) (by omega) hy, inAdd i2 (by omega) hy, i4 y hy]
              cases inS N y <;> cases inS U y <;> simp
            · have := i5 (k + 1) (.step (by omega) (by omega) pF' qF' hpq hE hk)
              dsimp only
              rw [show k + (n + 1) = k + 1 + n by omega]
              exact this
            · obtain ⟨k1, m1, b1⟩ := i6 k hk
              obtain ⟨k2, m2, b2⟩ := m1.less (fun u v h => EB.symm h) i3 (by omega) pF'
              obtain ⟨k3, m3, b3⟩ := m2.less (fun u v h => EB.symm h) dp (by omega) ip
              exact ⟨k3, m3, by dsimp only; omega⟩
            · rw [inDrop dp (by omega) hu, inDrop i3 (by omega) hu] at a
              rw [inDrop dp (by omega) hv, inDrop i3 (by omega) hv] at b
              simp only [Bool.and_eq_true, decide_eq_true_eq] at a b
              by_cases e : i = j
              · subst e
                rcases ends u v hjn with ⟨z, _⟩ | ⟨z, _⟩
                · exact a.1.2 z
                · exact a.2 z
              · exact i8 i u v (by omega) hu hv hjn hne a.1.1 b.1.1
      · rw [if_neg c1]
        exact ⟨_, rfl, U, F, rfl, i2, i3, i4, i5, i6, by dsimp only; omega, keep fun u v _ _ hjn hne _ _ => by
          rcases ends u v hjn with ⟨a, b⟩ | ⟨a, b⟩ <;> omega⟩
    rw [e2, bind_some']
    dsimp only at h5 h6 h7 h8 ⊢
    have b1 := hM.most _ (h5 0 (.nil _))
    have b2 : (l.length : Int) ≤ 2 * n := by
      obtain ⟨k', m1, b⟩ := h6 _ hM.has
      cases m1 with
      | nil => omega
      | step hu hv j1 j2 hne he hm =>
        obtain ⟨i, hi, hij⟩ := he
        exact (h8 i _ _ (by omega) hu hv hij hne j1 j2).elim
    rw [if_pos (by omega), ck_some (inI_small (by omega) (by omega))]
    exact congrArg some (decide_eq_true b2)
  · obtain ⟨e, he, hc⟩ := most_refused h
    rw [hc, bind_some']
    dsimp only
    rw [if_pos he]; rfl
end Go.Proofs.Ytdjllkoljpjohaa
