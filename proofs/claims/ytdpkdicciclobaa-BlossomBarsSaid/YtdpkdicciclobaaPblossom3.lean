/- Package blossom: Most tells a greatest one. -/
import Derived.Test.YtdpkdicciclobaaPblossom2
namespace Go.Proofs.Ytdpkdicciclobaa
open Go Go.Proofs.Ytdpkdicciclobaa.Sx
set_option linter.unusedVariables false
set_option linter.unusedSimpArgs false
theorem full_table : ∀ n : Fin 10, ∀ k : Fin 9, inS (2 ^ n.val - 1) k.val = decide (k.val < n.val) := by decide +kernel
theorem full_in {n k : Nat} (hn : n < 10) (hk : k < 9) : inS (2 ^ n - 1) k = decide (k < n) := full_table ⟨n, hn⟩ ⟨k, hk⟩
theorem val_step {g : Graph} {S u v : Nat} {a b : Int} (hA : MostS g S a) (hB : MostS g (dropS (dropS S u) v) b) (hu : u < 9) (hv : v < 9) (h1 : inS S u = true) (h2 : inS S v = true) (hne : u ≠ v) (he : EB g u v) : 1 + b ≤ a := by
  have := hA.most _ (.step hu hv h1 h2 hne he hB.has)
  have := hB.h0
  omega
theorem most_pass {g : Graph} (hg : Ok g) (hn : g.n ≤ 9) : ∃ l : List Int, blossom_Most_F g = some (l, 0) ∧ MostS g (2 ^ g.n.toNat - 1) (l.length : Int) := by
  have n0 := hg.n0
  obtain ⟨m, em, ml, mS⟩ := most_table hg hn
  have ht := two_table ⟨g.n.toNat, by omega⟩
  dsimp only at ht
  obtain ⟨t1, t2, t3⟩ := ht
  have hck : blossom_Check_F g = some 0 := by
    unfold blossom_Check_F
    rw [checkLong_ok hg, bind_some', if_neg (by decide), if_neg (by omega)]
  unfold blossom_Most_F
  rw [hck, bind_some', if_neg (by decide), em, bind_some', ck_some (by omega), t1, ck_some (inI_small (by omega) (by omega))]
  generalize hN : 2 ^ g.n.toNat = N at *
  have hfull := mS (N - 1) (by omega)
  have hfle := hfull.le
  obtain ⟨⟨out, x⟩, e, S, h1, h2, h3, h4⟩ := forN_inv (f := blossom_Most_B1 g m) (fun j (τ : List Int × Int) => ∃ S : Nat, τ.2 = (S : Int) ∧ S < N ∧ (τ.1.length : Int) + m.getD S 0 = m.getD (N - 1) 0 ∧ ∀ i u v, i < j → u < 9 → v < 9 → joinsB g i u v → u ≠ v → inS S u = true → inS S v = true → 1 + m.getD (dropS (dropS S u) v) 0 < m.getD S 0) (n := g.as.length) (k := 0) (s := ([], (N : Int) - 1)) ⟨N - 1, by dsimp only; omega, by omega, by simp, fun i u v hi => absurd hi (by omega)⟩ fun j τ _ hj ⟨S, i1, i2, i3, i4⟩ => by
    obtain ⟨out, x⟩ := τ
    dsimp only at i1 i2 i3 i4
    subst i1
    have hj' : j < g.as.length := by omega
    have hA := hg.arc _ (mem_getD (d := El.d) hj')
    have f0 := hA.f0; have f1 := hA.f1; have t0 := hA.t0; have t1' := hA.t1
    have hS : S < 512 := by omega
    unfold blossom_Most_B1
    dsimp only
    rw [ck_some f0, ck_some t0]
    have keep : (∀ u v, u < 9 → v < 9 → joinsB g j u v → u ≠ v → inS S u = true → inS S v = true → 1 + m.getD (dropS (dropS S u) v) 0 < m.getD S 0) → ∀ i u v, i < j + 1 → u < 9 → v < 9 → joinsB g i u v → u ≠ v → inS S u = true → inS S v = true → 1 + m.getD (dropS (dropS S u) v) 0 < m.getD S 0 := fun hjj i u v hi hu hv hjn hne a b => by
      by_cases e : i = j
      · subst e; exact hjj u v hu hv hjn hne a b
      · exact i4 i u v (by omega) hu hv hjn hne a b
    obtain ⟨p, hp⟩ : ∃ p : Nat, (g.as.getD j El.d).f = (p : Int) := ⟨(g.as.getD j El.d).f.toNat, by omega⟩
    obtain ⟨q, hq⟩ : ∃ q : Nat, (g.as.getD j El.d).t = (q : Int) := ⟨(g.as.getD j El.d).t.toNat, by omega⟩
    have ends : ∀ u v, joinsB g j u v → (u = p ∧ v = q) ∨ (u = q ∧ v = p) := fun u v h => by
      rcases h with ⟨a, b⟩ | ⟨a, b⟩ <;> omega
    rw [hp, hq, Int.toNat_natCast, Int.toNat_natCast, Int.toNat_natCast]
    by_cases c1 : ((p : Nat) : Int) ≠ ((q : Nat) : Int)
    · rw [if_pos c1, bitS hS (by omega), bitS hS (by omega)]
      cases hin : inS S p with
      | false => exact ⟨_, rfl, S, rfl, i2, i3, keep fun u v _ _ hjn _ a b => by
          rcases ends u v hjn with ⟨rfl, rfl⟩ | ⟨rfl, rfl⟩
          · rw [hin] at a; exact Bool.noConfusion a
          · rw [hin] at b; exact Bool.noConfusion b⟩
      | true =>
        cases hin2 : inS S q with
        | false => exact ⟨_, rfl, S, rfl, i2, i3, keep fun u v _ _ hjn _ a b => by
            rcases ends u v hjn with ⟨rfl, rfl⟩ | ⟨rfl, rfl⟩
            · rw [hin2] at b; exact Bool.noConfusion b
            · rw [hin2] at a; exact Bool.noConfusion a⟩
        | true =>
          have hpq : p ≠ q := fun e => c1 (by rw [e])
          have hE : EB g p q := ⟨j, hj', .inl ⟨hp, hq⟩⟩
          have d1 := dropS_lt hin
          have d2 := dropS_le (dropS S p) q
          have hA := mS S i2
          have hB := mS (dropS (dropS S p) q) (by omega)
          have hst := val_step hA hB (by omega) (by omega) hin hin2 hpq hE
          have b0 := hB.h0
          have a0 := hA.le
          rw [if_pos rfl, if_pos rfl, drop2_eq hS (by omega) (by omega), Int.toNat_natCast, ck_some (by omega), ck_some (by omega), ck_some (inI_small (by omega) (by omega))]
          by_cases c2 : m.getD S 0 = 1 + m.getD (dropS (dropS S p) q) 0
          · rw [if_pos c2, ck_some (by omega)]
            refine ⟨_, rfl, _, rfl, by omega, by simp only [List.length_append, List.length_cons, List.length_nil]; omega, fun i u v hi hu hv hjn hne a b => ?_⟩
            have dp := drop_lt (k := p) hS
            rw [inDrop dp (by omega) hu, inDrop hS (by omega) hu] at a
            rw [inDrop dp (by omega) hv, inDrop hS (by omega) hv] at b
            simp only [Bool.and_eq_true, decide_eq_true_eq] at a b
            obtain ⟨⟨a1, a2⟩, a3⟩ := a
            obtain ⟨⟨b1, b2⟩, b3⟩ := b
            have hij : i ≠ j := fun e => by
              subst e
              rcases ends u v hjn with ⟨z, _⟩ | ⟨z, _⟩
              · exact a2 z
              · exact a3 z
            have old := i4 i u v (by omega) hu hv hjn hne a1 b1
            have k1 := dropS_lt a1
            have k2 := dropS_le (dropS S u) v
            have du := drop_lt (k := u) hS
            have duv := drop_lt (k := v) du
            have hD := mS (dropS (dropS S u) v) (by omega)
            have k3 := dropS_le (dropS (dropS S u) v) p
            have k4 := dropS_le (dropS (dropS (dropS S u) v) p) q
            have hC := mS (dropS (dropS (dropS (dropS S u) v) p) q) (by omega)
            have ip : inS (dropS (dropS S u) v) p = true := by
              rw [inDrop du hv (by omega), inDrop hS hu (by omega), hin]
              simp only [Bool.true_and, Bool.and_eq_true, decide_eq_true_eq]
              exact ⟨fun z => a2 z.symm, fun z => b2 z.symm⟩
            have iq : inS (dropS (dropS S u) v) q = true := by
              rw [inDrop du hv (by omega), inDrop hS hu (by omega), hin2]
              simp only [Bool.true_and, Bool.and_eq_true, decide_eq_true_eq]
              exact ⟨fun z => a3 z.symm, fun z => b3 z.symm⟩
            have hs2 := val_step hD hC (by omega) (by omega) ip iq hpq hE
            have hsame : dropS (dropS (dropS (dropS S u) v) p) q = dropS (dropS (dropS (dropS S p) q) u) v := by
              rw [dropComm du hv (by omega), dropComm hS hu (by omega), dropComm (drop_lt dp) hv (by omega), dropComm dp hu (by omega)]
            rw [hsame] at hs2
            omega
          · rw [if_neg c2]
            refine ⟨_, rfl, S, rfl, i2, i3, keep fun u v _ _ hjn _ a b => ?_⟩
            rcases ends u v hjn with ⟨rfl, rfl⟩ | ⟨rfl, rfl⟩
            · omega
            · rw [dropComm hS (by omega) (by omega)]; omega
    · rw [if_neg c1]
      exact ⟨_, rfl, S, rfl, i2, i3, keep fun u v _ _ hjn hne _ _ => by
        exfalso
        rcases ends u v hjn with ⟨a, b⟩ | ⟨a, b⟩ <;> omega⟩
  rw [e, bind_some']
  dsimp only at h1 h2 h3 h4
  refine ⟨out, rfl, ?_⟩
  have hE := mS S h2
  have z : m.getD S 0 = 0 := by
    have h0 := hE.h0
    rcases Int.lt_or_le 0 (m.getD S 0) with c | c
    · exfalso
      have hm := hE.has
      obtain ⟨k, hk⟩ : ∃ k, (m.getD S 0).toNat = k + 1 := ⟨(m.getD S 0).toNat - 1, by omega⟩
      rw [hk] at hm
      cases hm with
      | step hu hv i1 i2 hne he hm' =>
        obtain ⟨i, hi, hij⟩ := he
        rename_i u v
        have := h4 i u v (by omega) hu hv hij hne i1 i2
        have k1 := dropS_lt i1
        have k2 := dropS_le (dropS S u) v
        have := (mS (dropS (dropS S u) v) (by omega)).most k hm'
        omega
    · omega
  rw [show ((out.length : Nat) : Int) = m.getD (N - 1) 0 by omega]
  exact hfull
theorem most_refused {g : Graph} (h : ¬ (Ok g ∧ g.n ≤ 9)) : ∃ e, e ≠ 0 ∧ blossom_Most_F g = some ([], e) := by
  have key : ∃ e, e ≠ 0 ∧ blossom_Check_F g = some e := by
    unfold blossom_Check_F
    rw [checkLong_eq, bind_some']
    by_cases c : checkF g (-10000) = 0
    · rw [if_neg (by rw [c]; decide)]
      have hok := (checkF_ok g _).1 c
      by_cases c2 : 9 < g.n
      · rw [if_pos c2]; exact ⟨2, by decide, rfl⟩
      · exact absurd ⟨hok, by omega⟩ h
    · rw [if_pos c]; exact ⟨_, c, rfl⟩
  obtain ⟨e, he, hc⟩ := key
  unfold blossom_Most_F
  rw [hc, bind_some', if_pos he]
  exact ⟨e, he, rfl⟩
end Go.Proofs.Ytdpkdicciclobaa
