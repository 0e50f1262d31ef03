/- Package blossom: the whole table. -/
import Derived.Test.YtdpkdicciclobaaPblossom
namespace Go.Proofs.Ytdpkdicciclobaa
open Go Go.Proofs.Ytdpkdicciclobaa.Sx
set_option linter.unusedVariables false
set_option linter.unusedSimpArgs false
theorem some_table : ∀ S : Fin 512, S.val = 0 ∨ ∃ k : Fin 9, inS S.val k.val = true := by decide +kernel
theorem two_table : ∀ n : Fin 10, IntKind.i64.wrap (1 * 2 ^ min n.val 64) = ((2 ^ n.val : Nat) : Int) ∧ 2 ^ n.val ≤ 512 ∧ 1 ≤ 2 ^ n.val := by decide +kernel
theorem low_ok {S : Nat} (h0 : 0 < S) (hS : S < 512) : ∃ low, low < 9 ∧ inS S low = true ∧ loopC (blossom_most_B2 S) 1000000 0 = some (.go low) := by
  obtain ⟨q, e, low, rfl, h1, h2⟩ := loopC_or (f := blossom_most_B2 S) (fun (k : Nat) => k ≤ 9 ∧ ∀ j, j < k → inS S j = false) (fun q => ∃ low, q = .go low ∧ low < 9 ∧ inS S low = true) (fun k => 10 - k) (fun k ⟨i1, i2⟩ => by
    have hk : k < 9 := by
      rcases some_table ⟨S, hS⟩ with z | ⟨j, hj⟩
      · have z' : S = 0 := z
        omega
      · refine Classical.byContradiction fun c => ?_
        have := i2 j.val (by have := j.isLt; omega)
        have hj' : inS S j.val = true := hj
        rw [this] at hj'
        exact Bool.noConfusion hj'
    unfold blossom_most_B2
    rw [bitS hS hk]
    cases hin : inS S k with
    | true =>
      rw [if_pos rfl, if_neg (by decide)]
      exact .inr (.inl ⟨k, rfl, k, rfl, hk, hin⟩)
    | false =>
      rw [if_neg (show ¬ (false = true) from by decide), if_pos rfl, ck_some (inI_small (by omega) (by omega))]
      refine .inl ⟨k + 1, rfl, ⟨by omega, fun j hj => ?_⟩, by omega⟩
      by_cases e : j = k
      · rw [e]; exact hin
      · exact i2 j (by omega)) (n := 1000000) (s := 0) ⟨by omega, fun j hj => absurd hj (by omega)⟩ (by omega)
  exact ⟨low, h1, h2, e⟩
theorem most_table {g : Graph} (hg : Ok g) (hn : g.n ≤ 9) : ∃ l, blossom_most_F g = some l ∧ l.length = 2 ^ g.n.toNat ∧ ∀ T, T < 2 ^ g.n.toNat → MostS g T (l.getD T 0) := by
  have n0 := hg.n0
  have ht := two_table ⟨g.n.toNat, by omega⟩
  dsimp only at ht
  obtain ⟨t1, t2, t3⟩ := ht
  unfold blossom_most_F
  rw [ck_some (by omega), t1, ck_some (by omega), Int.toNat_natCast]
  generalize hN : 2 ^ g.n.toNat = N at *
  obtain ⟨q, e, σ, rfl, h1, h2⟩ := loopC_or (f := blossom_most_B1 g) (fun (τ : List Int × Nat) => τ.1.length = N ∧ 1 ≤ τ.2 ∧ τ.2 ≤ N ∧ (∀ T, T < τ.2 → MostS g T (τ.1.getD T 0)) ∧ ∀ i, i < N → 0 ≤ τ.1.getD i 0 ∧ τ.1.getD i 0 ≤ 1000) (fun q => ∃ σ : List Int × Nat, q = .go σ ∧ σ.1.length = N ∧ ∀ T, T < N → MostS g T (σ.1.getD T 0)) (fun τ => N - τ.2) (fun τ ⟨i1, i2, i3, i4, i5⟩ => by
    obtain ⟨l, S⟩ := τ
    dsimp only at i1 i2 i3 i4 i5
    unfold blossom_most_B1
    dsimp only
    by_cases c : ((S : Nat) : Int) < ((l.length : Nat) : Int)
    · obtain ⟨low, l1, l2, l3⟩ := low_ok (S := S) (by omega) (by omega)
      have dd := dropS_le S low
      obtain ⟨l', e, p1, p2, p3⟩ := most_entry hg hn (S := S) (by omega) l1 l2 (l := l) (by omega) (by omega) i4 (fun i hi => i5 i (by omega))
      rw [if_pos c, l3, bind_some']
      dsimp only
      rw [dropS_eq (by omega) l1, ck_some (by omega), ck_some (by omega), Int.toNat_natCast, e, bind_some', ck_some (inI_small (by omega) (by omega))]
      refine .inl ⟨_, rfl, ⟨by dsimp only; omega, by dsimp only; omega, by dsimp only; omega, fun T hT => ?_, fun i hi => ?_⟩, by dsimp only; omega⟩
      · dsimp only at hT ⊢
        by_cases eT : T = S
        · rw [eT]; exact p3
        · rw [p2 T eT]; exact i4 T (by omega)
      · dsimp only
        by_cases eT : i = S
        · rw [eT]
          have := p3.le
          have := p3.h0
          omega
        · rw [p2 i eT]; exact i5 i hi
    · rw [if_neg c]
      exact .inr (.inl ⟨_, rfl, _, rfl, i1, fun T hT => i4 T (by omega)⟩)) (n := 1000000) (s := (List.replicate N (0 : Int), 1)) ⟨by simp, Nat.le_refl _, by omega, fun T hT => by
      have e0 : T = 0 := by dsimp only at hT; omega
      subst e0
      have : (List.replicate N (0 : Int)).getD 0 0 = 0 := by rw [getD_replicate']; split <;> rfl
      rw [this]
      exact ⟨Int.le_refl _, .nil _, fun k hk => by have := hk.le; omega⟩, fun i hi => by
      dsimp only
      rw [getD_replicate']; split <;> omega⟩ (by dsimp only; omega)
  rw [e, bind_some']
  exact ⟨σ.1, rfl, h1, h2⟩
end Go.Proofs.Ytdpkdicciclobaa
