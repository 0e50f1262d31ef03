/- Determinants without fractions on the way (Bareiss). No program. -/
import Derived.Test.YtdpkdicciclobaaPdet
namespace Go.Proofs.Ytdpkdicciclobaa
open Go Go.Proofs.Ytdpkdicciclobaa.Sx
set_option linter.unusedVariables false
set_option linter.unusedSimpArgs false
/-- the first k lines, and some others behind them -/
def ext (k : Nat) (ρ : Nat → Nat) (x : Nat) : Nat := if x < k then x else ρ (x - k)
theorem ext_lt {k x : Nat} {ρ : Nat → Nat} (h : x < k) : ext k ρ x = x := if_pos h
theorem ext_ge {k x : Nat} {ρ : Nat → Nat} (h : k ≤ x) : ext k ρ x = ρ (x - k) := if_neg (by omega)
def Rng (k n m : Nat) (ρ : Nat → Nat) : Prop := ∀ x, x < m → k ≤ ρ x ∧ ρ x < n
/-- k steps are done: what stands behind them are determinants -/
structure Bar (n k : Nat) (M A : Nat → Nat → Int) (last : Int) : Prop where
  ne : last ≠ 0
  lead : dt k M = last
  syl : ∀ (r : Nat) (ρ γ : Nat → Nat), Rng k n (r + 1) ρ → Rng k n (r + 1) γ → dt (k + (r + 1)) (fun x y => M (ext k ρ x) (ext k γ y)) * last ^ r = dt (r + 1) fun x y => A (ρ x) (γ y)
theorem bar_zero (n : Nat) (M : Nat → Nat → Int) : Bar n 0 M M 1 := by
  refine ⟨by decide, rfl, fun r ρ γ _ _ => ?_⟩
  rw [Int.one_pow, Int.mul_one, Nat.zero_add]
  exact dt_congr fun i j _ _ => by rw [ext_ge (by omega), ext_ge (by omega), Nat.sub_zero, Nat.sub_zero]
theorem bar_entry {n k : Nat} {M A : Nat → Nat → Int} {last : Int} (h : Bar n k M A last) {i j : Nat} (hi : k ≤ i) (hin : i < n) (hj : k ≤ j) (hjn : j < n) :
    A i j = dt (k + 1) fun x y => M (if x < k then x else i) (if y < k then y else j) := by
  have := h.syl 0 (fun _ => i) (fun _ => j) (fun _ _ => ⟨hi, hin⟩) (fun _ _ => ⟨hj, hjn⟩)
  rw [dt_one, Int.pow_zero, Int.mul_one] at this
  exact this.symm
theorem bar_swap {n k p : Nat} {M A : Nat → Nat → Int} {last : Int} (h : Bar n k M A last) (hp : k ≤ p) (hpn : p < n) (hk : k < n) : Bar n k (rswap M p k) (rswap A p k) last := by
  refine ⟨h.ne, ?_, fun r ρ γ hρ hγ => ?_⟩
  · rw [← h.lead]
    exact dt_congr fun i j hi hj => by unfold rswap; rw [if_neg (by omega), if_neg (by omega)]
  · have := h.syl r (fun x => if ρ x = p then k else if ρ x = k then p else ρ x) γ (fun x hx => by
      have := hρ x hx
      dsimp only
      split
      · omega
      · split <;> omega) hγ
    refine Eq.trans (congrArg (fun z => z * last ^ r) (dt_congr fun x y hx hy => ?_)) this
    unfold rswap
    by_cases w : x < k
    · rw [ext_lt w, ext_lt w, if_neg (by omega), if_neg (by omega)]
    · have w' : k ≤ x := by omega
      rw [ext_ge w', ext_ge w']
theorem bar_none {n k : Nat} {M A : Nat → Nat → Int} {last : Int} (h : Bar n k M A last) (hk : k < n) (h0 : ∀ p, k ≤ p → p < n → A p k = 0) : dt n M = 0 := by
  obtain ⟨r, rfl⟩ : ∃ r, n = k + (r + 1) := ⟨n - k - 1, by omega⟩
  have := h.syl r (fun x => k + x) (fun x => k + x) (fun x hx => ⟨Nat.le_add_right .., show k + x < _ by omega⟩) (fun x hx => ⟨Nat.le_add_right .., show k + x < _ by omega⟩)
  rw [dt_col0 (n := r) (a := fun x y => A (k + x) (k + y)) fun i hi => h0 _ (by omega) (by omega)] at this
  rcases Int.mul_eq_zero.1 this with w | w
  · rw [← w]
    exact dt_congr fun i j _ _ => by
      have e : ∀ x, ext k (fun x => k + x) x = x := fun x => by
        by_cases w : x < k
        · exact ext_lt w
        · exact Eq.trans (ext_ge (by omega)) (show k + (x - k) = x by omega)
      rw [e, e]
  · exact absurd w (Int.pow_ne_zero h.ne)
theorem bar_exact {n k : Nat} {M A : Nat → Nat → Int} {last : Int} (h : Bar n k M A last) (hk : k < n) {i j : Nat} (hi : k ≤ i) (hin : i < n) (hj : k ≤ j) (hjn : j < n) :
    ∃ q, A i j * A k k - A i k * A k j = q * last := by
  have := h.syl 1 (fun x => if x = 0 then k else i) (fun x => if x = 0 then k else j) (fun x _ => by dsimp only; split <;> omega) (fun x _ => by dsimp only; split <;> omega)
  rw [dt_two] at this
  rw [Int.pow_succ, Int.pow_zero, Int.one_mul] at this
  refine ⟨_, Eq.trans ?_ this.symm⟩
  show _ = A k k * A i j - A i k * A k j
  rw [Int.mul_comm (A k k)]
theorem bar_step {n k : Nat} {M A A' : Nat → Nat → Int} {last : Int} (h : Bar n k M A last) (hk : k < n) (hp : A k k ≠ 0) (ha : ∀ i j, k < i → i < n → k < j → j < n → A' i j * last = A i j * A k k - A i k * A k j) : Bar n (k + 1) M A' (A k k) := by
  refine ⟨hp, ?_, fun r ρ γ hρ hγ => ?_⟩
  · rw [bar_entry h (Nat.le_refl k) hk (Nat.le_refl k) hk]
    exact dt_congr fun i j hi hj => by
      have e : ∀ x, x < k + 1 → (if x < k then x else k) = x := fun x hx => by split <;> omega
      rw [e i hi, e j hj]
  · have hs := h.syl (r + 1) (fun x => if x = 0 then k else ρ (x - 1)) (fun x => if x = 0 then k else γ (x - 1))
      (fun x hx => by
        dsimp only
        split
        · omega
        · have := hρ (x - 1) (by omega); omega)
      (fun x hx => by
        dsimp only
        split
        · omega
        · have := hγ (x - 1) (by omega); omega)
    have hc := dt_chio (r + 1) fun x y => A (if x = 0 then k else ρ (x - 1)) (if y = 0 then k else γ (y - 1))
    rw [← hs] at hc
    have e1 : dt (r + 1) (fun i j => (fun x y => A (if x = 0 then k else ρ (x - 1)) (if y = 0 then k else γ (y - 1))) 0 0 * (fun x y => A (if x = 0 then k else ρ (x - 1)) (if y = 0 then k else γ (y - 1))) (i + 1) (j + 1) - (fun x y => A (if x = 0 then k else ρ (x - 1)) (if y = 0 then k else γ (y - 1))) (i + 1) 0 * (fun x y => A (if x = 0 then k else ρ (x - 1)) (if y = 0 then k else γ (y - 1))) 0 (j + 1)) = dt (r + 1) fun i j => last * A' (ρ i) (γ j) := dt_congr fun i j hi hj => by
      have hr := hρ i hi
      have hg := hγ j hj
      have := ha (ρ i) (γ j) (by omega) hr.2 (by omega) hg.2
      show A k k * A (ρ i) (γ j) - A (ρ i) k * A k (γ j) = last * A' (ρ i) (γ j)
      rw [Int.mul_comm last, this, Int.mul_comm (A k k)]
    have e2 : dt (k + (r + 1 + 1)) (fun x y => M (ext k (fun x => if x = 0 then k else ρ (x - 1)) x) (ext k (fun x => if x = 0 then k else γ (x - 1)) y)) = dt (k + 1 + (r + 1)) fun x y => M (ext (k + 1) ρ x) (ext (k + 1) γ y) := by
      rw [show k + 1 + (r + 1) = k + (r + 1 + 1) by omega]
      have e : ∀ (ρ : Nat → Nat) x, ext k (fun x => if x = 0 then k else ρ (x - 1)) x = ext (k + 1) ρ x := fun ρ x => by
        by_cases w : x < k
        · rw [ext_lt w, ext_lt (by omega)]
        · rw [ext_ge (by omega)]
          (try dsimp only)
          by_cases z : x = k
          · rw [if_pos (by omega), ext_lt (by omega), z]
          · rw [if_neg (by omega), ext_ge (by omega), show x - k - 1 = x - (k + 1) by omega]
      exact dt_congr fun i j _ _ => by rw [e, e]
    rw [e1, e2, dt_scale] at hc
    have h0 : (last : Int) ^ (r + 1) ≠ 0 := Int.pow_ne_zero h.ne
    have hc' : dt (k + 1 + (r + 1)) (fun x y => M (ext (k + 1) ρ x) (ext (k + 1) γ y)) * last ^ (r + 1) * A k k ^ (r + 1) = A k k * (last ^ (r + 1) * dt (r + 1) fun i j => A' (ρ i) (γ j)) := hc
    refine Int.eq_of_mul_eq_mul_left (Int.mul_ne_zero h0 hp) ?_
    rw [Int.pow_succ (A k k) r] at hc'
    generalize dt (k + 1 + (r + 1)) (fun x y => M (ext (k + 1) ρ x) (ext (k + 1) γ y)) = D at hc' ⊢
    generalize dt (r + 1) (fun i j => A' (ρ i) (γ j)) = E at hc' ⊢
    generalize last ^ (r + 1) = L at hc' ⊢
    grind
theorem bar_end {n : Nat} {M A : Nat → Nat → Int} {last : Int} (h : Bar n n M A last) : dt n M = last := h.lead
end Go.Proofs.Ytdpkdicciclobaa
