/- Fewer equations than unknowns: there is a solution that is not 0. No program. -/
import Derived.Test.YtmdpjhclgofbfaaPbirk
namespace Go.Proofs.Ytmdpjhclgofbfaa
open Go Go.Proofs.Ytmdpjhclgofbfaa.Sx
set_option linter.unusedVariables false
set_option linter.unusedSimpArgs false
theorem lin_sol : ∀ (n m : Nat) (A : Nat → Nat → Int), m < n → ∃ x : Nat → Int, (∃ j, j < n ∧ x j ≠ 0) ∧ ∀ i, i < m → tot (fun j => A i j * x j) n = 0
  | 0, m, A, h => absurd h (by omega)
  | n + 1, m, A, h => by
    by_cases c : ∃ r, r < m ∧ A r n ≠ 0
    · obtain ⟨r, hr, hne⟩ := c
      obtain ⟨y, ⟨j0, hj0, hy0⟩, hy⟩ := lin_sol n (m - 1) (fun i j => A r n * A (if i = r then m - 1 else i) j - A (if i = r then m - 1 else i) n * A r j) (by omega)
      refine ⟨fun j => if j = n then -tot (fun j => A r j * y j) n else A r n * y j, ⟨j0, by omega, ?_⟩, fun i hi => ?_⟩
      · dsimp only
        rw [if_neg (by omega)]
        exact Int.mul_ne_zero hne hy0
      · have e : tot (fun j => A i j * (if j = n then -tot (fun j => A r j * y j) n else A r n * y j)) (n + 1) = A r n * tot (fun j => A i j * y j) n + A i n * -tot (fun j => A r j * y j) n := by
          have e1 : tot (fun j => A i j * (if j = n then -tot (fun j => A r j * y j) n else A r n * y j)) (n + 1) = tot (fun j => A i j * (if j = n then -tot (fun j => A r j * y j) n else A r n * y j)) n + A i n * (if n = n then -tot (fun j => A r j * y j) n else A r n * y n) := rfl
          rw [e1, if_pos rfl, tot_congr (f := fun j => A i j * (if j = n then -tot (fun j => A r j * y j) n else A r n * y j)) (g := fun j => A r n * (A i j * y j)) fun j hj => by
            rw [if_neg (by omega), Int.mul_left_comm], tot_mul (A r n) (fun j => A i j * y j)]
        rw [e, Int.mul_neg]
        by_cases z : i = r
        · subst z; omega
        · obtain ⟨i', hi', ei⟩ : ∃ i', i' < m - 1 ∧ (if i' = r then m - 1 else i') = i := by
            by_cases w : i = m - 1
            · exact ⟨r, by omega, by rw [if_pos rfl, w]⟩
            · exact ⟨i, by omega, if_neg z⟩
          have h1 := hy i' hi'
          rw [ei, tot_congr (f := fun j => (A r n * A i j - A i n * A r j) * y j) (g := fun j => A r n * (A i j * y j) - A i n * (A r j * y j)) fun j _ => by
            rw [Int.sub_mul, Int.mul_assoc, Int.mul_assoc], tot_sub (fun j => A r n * (A i j * y j)) (fun j => A i n * (A r j * y j)), tot_mul (A r n) (fun j => A i j * y j), tot_mul (A i n) (fun j => A r j * y j)] at h1
          omega
    · refine ⟨fun j => if j = n then 1 else 0, ⟨n, by omega, by dsimp only; rw [if_pos rfl]; decide⟩, fun i hi => ?_⟩
      have h0 : A i n = 0 := Classical.byContradiction fun z => c ⟨i, hi, z⟩
      refine tot_zero fun j hj => ?_
      show A i j * (if j = n then 1 else 0) = 0
      by_cases w : j = n
      · subst w; rw [h0, Int.zero_mul]
      · rw [if_neg w, Int.mul_zero]
/-- Ways to take one of each line, each with a place that no later one takes: there are at most p*p+1, of p+1 lines. -/
theorem ways_few {p m : Nat} {σ : Nat → Nat → Nat} (hσ : ∀ k, k < m → InjN (p + 1) (σ k)) {z : Nat → Nat} (hz : ∀ k, k < m → z k < p + 1) (hlate : ∀ k j, k < j → j < m → σ j (z k) ≠ σ k (z k)) : m ≤ p * p + 1 := by
  refine Classical.byContradiction fun hbig => ?_
  obtain ⟨x, ⟨j0, hj0, hx0⟩, hx⟩ := lin_sol m (p * p + 1) (fun e k => if e < p * p then (if σ k (e / p) = e % p then 1 else 0) else 1) (by omega)
  -- what all ways, weighed, have at a place
  have hall : tot x m = 0 := by
    have := hx (p * p) (by omega)
    rw [tot_congr (g := x) fun k _ => by rw [if_neg (by omega), Int.one_mul]] at this
    exact this
  have inner : ∀ i c, i < p → c < p → tot (fun k => (if σ k i = c then 1 else 0) * x k) m = 0 := fun i c hi hc => by
    have hp : 0 < p := by omega
    have he : i * p + c < p * p := by
      have := Nat.mul_le_mul_right p (show i + 1 ≤ p by omega)
      rw [Nat.add_mul] at this
      omega
    have h1 : (i * p + c) / p = i := by rw [Nat.mul_comm, Nat.mul_add_div hp, Nat.div_eq_of_lt hc, Nat.add_zero]
    have h2 : (i * p + c) % p = c := by rw [Nat.mul_comm, Nat.mul_add_mod, Nat.mod_eq_of_lt hc]
    have := hx (i * p + c) (by omega)
    rw [tot_congr (g := fun k => (if σ k i = c then 1 else 0) * x k) fun k _ => by rw [if_pos he, h1, h2]] at this
    exact this
  have row : ∀ i, i < p + 1 → tot (fun c => tot (fun k => (if σ k i = c then 1 else 0) * x k) m) (p + 1) = 0 := fun i hi => by
    rw [tot_swap (fun c k => (if σ k i = c then 1 else 0) * x k)]
    refine Eq.trans (tot_congr (g := x) fun k hk => ?_) hall
    rw [tot_single (f := fun c => (if σ k i = c then 1 else 0) * x k) ((hσ k hk).lt i hi) (fun c _ hne => by rw [if_neg fun w => hne w.symm, Int.zero_mul]), if_pos rfl, Int.one_mul]
  have col : ∀ c, c < p + 1 → tot (fun i => tot (fun k => (if σ k i = c then 1 else 0) * x k) m) (p + 1) = 0 := fun c hc => by
    rw [tot_swap (fun i k => (if σ k i = c then 1 else 0) * x k)]
    refine Eq.trans (tot_congr (g := x) fun k hk => ?_) hall
    obtain ⟨i0, hi0, e0⟩ := (hσ k hk).onto hc
    rw [tot_single (f := fun i => (if σ k i = c then 1 else 0) * x k) hi0 (fun i hi hne => by rw [if_neg fun w => hne ((hσ k hk).inj i i0 hi hi0 (by rw [w, e0])), Int.zero_mul]), if_pos e0, Int.one_mul]
  have right : ∀ i, i < p → tot (fun k => (if σ k i = p then 1 else 0) * x k) m = 0 := fun i hi => by
    have h1 := row i (by omega)
    have e : tot (fun c => tot (fun k => (if σ k i = c then 1 else 0) * x k) m) (p + 1) = tot (fun c => tot (fun k => (if σ k i = c then 1 else 0) * x k) m) p + tot (fun k => (if σ k i = p then 1 else 0) * x k) m := rfl
    rw [e, tot_zero (f := fun c => tot (fun k => (if σ k i = c then 1 else 0) * x k) m) fun c hc => inner i c hi hc] at h1
    omega
  have every : ∀ i c, i < p + 1 → c < p + 1 → tot (fun k => (if σ k i = c then 1 else 0) * x k) m = 0 := fun i c hi hc => by
    have up : ∀ i, i < p → tot (fun k => (if σ k i = c then 1 else 0) * x k) m = 0 := fun i hi => by
      by_cases w : c = p
      · subst w; exact right i hi
      · exact inner i c hi (by omega)
    by_cases w : i = p
    · subst w
      have h1 := col c hc
      have e : tot (fun i => tot (fun k => (if σ k i = c then 1 else 0) * x k) m) (i + 1) = tot (fun i => tot (fun k => (if σ k i = c then 1 else 0) * x k) m) i + tot (fun k => (if σ k i = c then 1 else 0) * x k) m := rfl
      rw [e, tot_zero (f := fun i => tot (fun k => (if σ k i = c then 1 else 0) * x k) m) fun i hi => up i hi] at h1
      omega
    · exact up i (by omega)
  -- so each weight is 0
  have zero : ∀ d k, k ≤ d → k < m → x k = 0 := fun d => by
    induction d with
    | zero =>
      intro k hk hkm
      have hk0 : k = 0 := by omega
      subst hk0
      have h1 := every (z 0) (σ 0 (z 0)) (hz 0 hkm) ((hσ 0 hkm).lt _ (hz 0 hkm))
      rw [tot_single (f := fun k => (if σ k (z 0) = σ 0 (z 0) then 1 else 0) * x k) hkm (fun j hj hne => by rw [if_neg (hlate 0 j (by omega) hj), Int.zero_mul]), if_pos rfl, Int.one_mul] at h1
      exact h1
    | succ d ih =>
      intro k hk hkm
      by_cases w : k ≤ d
      · exact ih k w hkm
      · have h1 := every (z k) (σ k (z k)) (hz k hkm) ((hσ k hkm).lt _ (hz k hkm))
        rw [tot_single (f := fun j => (if σ j (z k) = σ k (z k) then 1 else 0) * x j) hkm (fun j hj hne => by
          by_cases q : j < k
          · rw [ih j (by omega) hj, Int.mul_zero]
          · rw [if_neg (hlate k j (by omega) hj), Int.zero_mul]), if_pos rfl, Int.one_mul] at h1
        exact h1
  exact hx0 (zero j0 j0 (Nat.le_refl _) hj0)
end Go.Proofs.Ytmdpjhclgofbfaa
