/- A table whose lines are all as much holds, where nothing is 0, one entry of each row, no two of one column. No program. -/
import Derived.Test.YtlpelkfcmeapiaaPdual
namespace Go.Proofs.Ytlpelkfcmeapiaa
open Go Go.Proofs.Ytlpelkfcmeapiaa.Sx
set_option linter.unusedVariables false
set_option linter.unusedSimpArgs false
theorem max_exists {S : Int → Prop} {M : Int} (hM : ∀ v, S v → v ≤ M) : ∀ (d : Nat) {v : Int}, S v → (M - v).toNat ≤ d → ∃ m, S m ∧ ∀ u, S u → u ≤ m
  | 0, v, h, hd => ⟨v, h, fun u hu => by have := hM u hu; have := hM v h; omega⟩
  | d + 1, v, h, hd => by
    by_cases c : ∃ u, S u ∧ v < u
    · obtain ⟨u, hu, huv⟩ := c
      exact max_exists hM d hu (by have := hM u hu; omega)
    · exact ⟨v, h, fun u hu => Int.not_lt.1 fun z => c ⟨u, hu, z⟩⟩
theorem tot_ltB {f g : Nat → Int} {k : Nat} : ∀ {n : Nat}, (∀ i, i < n → f i ≤ g i) → k < n → f k < g k → tot f n < tot g n
  | 0, _, h, _ => absurd h (by omega)
  | n + 1, h, hk, hl => by
    have e1 : tot f (n + 1) = tot f n + f n := rfl
    have e2 : tot g (n + 1) = tot g n + g n := rfl
    by_cases c : k = n
    · subst c
      have := tot_le (f := f) (g := g) (n := k) fun i hi => h i (by omega)
      omega
    · have := tot_ltB (n := n) (fun i hi => h i (by omega)) (by omega) hl
      have := h n (by omega)
      omega
section
variable {n : Nat} {σ τ : Nat → Nat} {U : Nat → Nat → Int}
theorem InjN.comp (h : InjN n σ) (h' : InjN n τ) : InjN n (fun i => σ (τ i)) := ⟨fun i hi => h.lt _ (h'.lt i hi), fun i j hi hj e => h'.inj i j hi hj (h.inj _ _ (h'.lt i hi) (h'.lt j hj) e)⟩
theorem InjN.onto (h : InjN n σ) {k : Nat} (hk : k < n) : ∃ i, i < n ∧ σ i = k := by
  refine Classical.byContradiction fun hno => ?_
  have h1 : ∀ j, j < n → tot (fun i => if σ i = j then 1 else 0) n ≤ 1 := fun j hj => by
    by_cases c : ∃ i, i < n ∧ σ i = j
    · obtain ⟨i, hi, e⟩ := c
      rw [tot_single (f := fun i => if σ i = j then (1 : Int) else 0) hi (fun a ha hne => if_neg fun z => hne (h.inj a i ha hi (by rw [z, e]))), if_pos e]
      exact Int.le_refl _
    · rw [tot_zero (f := fun i => if σ i = j then (1 : Int) else 0) fun i hi => if_neg fun z => c ⟨i, hi, z⟩]
      decide
  have h2 := tot_ltB (f := fun j => tot (fun i => if σ i = j then 1 else 0) n) (g := fun _ => 1) h1 hk (by
    rw [tot_zero (f := fun i => if σ i = k then (1 : Int) else 0) fun i hi => if_neg fun z => hno ⟨i, hi, z⟩]
    decide)
  rw [tot_swap (fun j i => if σ i = j then 1 else 0), tot_const, tot_congr (g := fun _ => 1) fun i hi => by
    rw [tot_single (f := fun j => if σ i = j then (1 : Int) else 0) (h.lt i hi) (fun a _ hne => if_neg fun z => hne z.symm), if_pos rfl], tot_const] at h2
  omega
theorem tot_permB (h : InjN n σ) (f : Nat → Int) : tot (fun i => f (σ i)) n = tot f n := by
  have e1 : tot (fun i => f (σ i)) n = tot (fun i => tot (fun k => if σ i = k then f k else 0) n) n := tot_congr fun i hi => by
    rw [tot_single (f := fun k => if σ i = k then f k else 0) (h.lt i hi) fun k _ hne => if_neg fun z => hne z.symm, if_pos rfl]
  rw [e1, tot_swap (fun i k => if σ i = k then f k else 0)]
  exact tot_congr fun k hk => by
    obtain ⟨i, hi, e⟩ := h.onto hk
    rw [tot_single (f := fun i => if σ i = k then f k else 0) hi fun j hj hne => if_neg fun z => hne (h.inj j i hj hi (by rw [z, e])), if_pos e]
theorem pot_exists (hb : BestU n U) {B : Int} (hB : ∀ i j, U i j - U i i ≤ B) (h0 : 0 ≤ B) : ∃ P : Nat → Int, ∀ k l, k < n → l < n → P k + (U k l - U k k) ≤ P l := by
  have key : ∀ k : Nat, ∃ v : Int, k < n → (∃ a L, Pth n (fun i j => U i j - U i i) a L k v) ∧ ∀ a L u, Pth n (fun i j => U i j - U i i) a L k u → u ≤ v := fun k => by
    by_cases c : k < n
    · obtain ⟨m, ⟨a, L, h1⟩, h2⟩ := max_exists (S := fun v => ∃ a L, Pth n (fun i j => U i j - U i i) a L k v) (M := n * B) (fun v ⟨a, L, h⟩ => by
        have h1 := h.small hB h0
        have h2 := h.le_n
        have h3 : (L.length : Int) * B ≤ (n : Int) * B := Int.mul_le_mul_of_nonneg_right (by omega) h0
        omega) _ ⟨k, _, .one c⟩ (Nat.le_refl _)
      exact ⟨m, fun _ => ⟨⟨a, L, h1⟩, fun a L u h => h2 u ⟨a, L, h⟩⟩⟩
    · exact ⟨0, fun z => absurd z c⟩
  obtain ⟨P, hP⟩ := Classical.axiomOfChoice key
  refine ⟨P, fun k l hk hl => ?_⟩
  obtain ⟨⟨a, L, h1⟩, _⟩ := hP k hk
  obtain ⟨L', v', h3, h4⟩ := h1.ext hb hl
  have := (hP l hl).2 a L' v' h3
  omega
end
theorem best_exists (n : Nat) (W : Nat → Nat → Int) {B : Int} (hB : ∀ i k, W i k ≤ B) : ∃ σ, InjN n σ ∧ ∀ τ, InjN n τ → tot (fun i => W i (τ i)) n ≤ tot (fun i => W i (σ i)) n := by
  obtain ⟨m, ⟨σ, h1, h2⟩, h3⟩ := max_exists (S := fun v => ∃ σ, InjN n σ ∧ v = tot (fun i => W i (σ i)) n) (M := n * B) (fun v ⟨σ, _, e⟩ => by
    have := tot_le (f := fun i => W i (σ i)) (g := fun _ => B) (n := n) fun i _ => hB _ _
    rw [tot_const] at this
    omega) _ ⟨id, ⟨fun i h => h, fun i j _ _ e => e⟩, rfl⟩ (Nat.le_refl _)
  exact ⟨σ, h1, fun τ h => by rw [← h2]; exact h3 _ ⟨τ, h, rfl⟩⟩
/-- Birkhoff's step -/
theorem pos_perm {n : Nat} {M : Nat → Nat → Int} {x : Int} (h0 : ∀ i k, i < n → k < n → 0 ≤ M i k) (hr : ∀ i, i < n → tot (M i) n = x) (hc : ∀ k, k < n → tot (fun i => M i k) n = x) (hx : 0 < x) : ∃ σ, InjN n σ ∧ ∀ i, i < n → 0 < M i (σ i) := by
  obtain ⟨σ, hσ, hb⟩ := best_exists n (fun i k => if 0 < M i k then 1 else 0) (B := 1) (fun i k => by split <;> omega)
  have hbU : BestU n (fun i j => if 0 < M i (σ j) then 1 else 0) := fun τ hτ => hb _ (hσ.comp hτ)
  obtain ⟨P, hP⟩ := pot_exists hbU (B := 1) (fun i j => by split <;> split <;> omega) (by decide)
  refine ⟨σ, hσ, fun i hi => Classical.byContradiction fun hno => ?_⟩
  -- weigh by the table
  have e : ∀ k l, k < n → l < n → P k * M k (σ l) + M k (σ l) - (if 0 < M k (σ k) then 1 else 0) * M k (σ l) ≤ P l * M k (σ l) := fun k l hk hl => by
    have hn := h0 k (σ l) hk (hσ.lt l hl)
    have h1 := Int.mul_le_mul_of_nonneg_right (hP k l hk hl) hn
    have h2 : (if 0 < M k (σ l) then (1 : Int) else 0) * M k (σ l) = M k (σ l) := by
      by_cases c : 0 < M k (σ l)
      · rw [if_pos c, Int.one_mul]
      · rw [if_neg c, Int.zero_mul]; omega
    skip
    rw [Int.add_mul, Int.sub_mul, h2] at h1
    omega
  have s := tot_le (f := fun k => tot (fun l => P k * M k (σ l) + M k (σ l) - (if 0 < M k (σ k) then 1 else 0) * M k (σ l)) n) (g := fun k => tot (fun l => P l * M k (σ l)) n) (n := n) fun k hk => tot_le fun l hl => e k l hk hl
  have el : ∀ k, k < n → tot (fun l => P k * M k (σ l) + M k (σ l) - (if 0 < M k (σ k) then 1 else 0) * M k (σ l)) n = P k * x + x - (if 0 < M k (σ k) then 1 else 0) * x := fun k hk => by
    have h1 : tot (fun l => M k (σ l)) n = x := (tot_permB hσ (M k)).trans (hr k hk)
    rw [tot_sub (fun l => P k * M k (σ l) + M k (σ l)) (fun l => (if 0 < M k (σ k) then 1 else 0) * M k (σ l)), tot_add (fun l => P k * M k (σ l)) (fun l => M k (σ l)), tot_mul (P k) (fun l => M k (σ l)), tot_mul _ (fun l => M k (σ l)), h1]
  rw [tot_congr el, tot_swap (fun k l => P l * M k (σ l)), tot_congr (f := fun l => tot (fun k => P l * M k (σ l)) n) (g := fun l => P l * x) fun l hl => by
    rw [tot_mul (P l) (fun k => M k (σ l)), hc _ (hσ.lt l hl)], tot_sub (fun k => P k * x + x) (fun k => (if 0 < M k (σ k) then 1 else 0) * x), tot_add (fun k => P k * x) (fun _ => x), tot_const] at s
  have s2 := tot_ltB (f := fun k => (if 0 < M k (σ k) then 1 else 0) * x) (g := fun _ => x) (n := n) (fun k _ => by
    by_cases c : 0 < M k (σ k)
    · rw [if_pos c, Int.one_mul]; exact Int.le_refl _
    · rw [if_neg c, Int.zero_mul]; omega) hi (by rw [if_neg hno, Int.zero_mul]; exact hx)
  rw [tot_const] at s2
  omega
end Go.Proofs.Ytlpelkfcmeapiaa
