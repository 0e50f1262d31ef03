/- Determinants of tables of whole numbers. No program. -/
import Derived.Test.YtdpkdicciclobaaPlA
namespace Go.Proofs.Ytdpkdicciclobaa
open Go Go.Proofs.Ytdpkdicciclobaa.Sx
set_option linter.unusedVariables false
set_option linter.unusedSimpArgs false
def sg (i : Nat) : Int := if i % 2 = 0 then 1 else -1
theorem sg_succ (i : Nat) : sg (i + 1) = -sg i := by
  unfold sg
  by_cases h : i % 2 = 0
  · rw [if_pos h, if_neg (by omega)]
  · rw [if_neg h, if_pos (by omega)]; rfl
def skip (i r : Nat) : Nat := if r < i then r else r + 1
theorem skip_lt {i r : Nat} (h : r < i) : skip i r = r := if_pos h
theorem skip_ge {i r : Nat} (h : i ≤ r) : skip i r = r + 1 := if_neg (by omega)
theorem skip_ne (i r : Nat) : skip i r ≠ i := by unfold skip; split <;> omega
theorem skip_le {i r n : Nat} (h : r < n) : skip i r < n + 1 := by unfold skip; split <;> omega
theorem skip_inj {i r s : Nat} (h : skip i r = skip i s) : r = s := by unfold skip at h; split at h <;> split at h <;> omega
/-- the determinant, by its first column -/
def dt : Nat → (Nat → Nat → Int) → Int
  | 0, _ => 1
  | n + 1, a => tot (fun i => sg i * (a i 0 * dt n fun r c => a (skip i r) (c + 1))) (n + 1)
theorem dt_zero (a : Nat → Nat → Int) : dt 0 a = 1 := rfl
theorem dt_succ (n : Nat) (a : Nat → Nat → Int) : dt (n + 1) a = tot (fun i => sg i * (a i 0 * dt n fun r c => a (skip i r) (c + 1))) (n + 1) := rfl
theorem dt_congr : ∀ {n : Nat} {a b : Nat → Nat → Int}, (∀ i j, i < n → j < n → a i j = b i j) → dt n a = dt n b
  | 0, _, _, _ => rfl
  | n + 1, a, b, h => by
    rw [dt_succ, dt_succ]
    refine tot_congr fun i hi => ?_
    rw [h i 0 hi (by omega), dt_congr (n := n) (b := fun r c => b (skip i r) (c + 1)) fun r c hr hc => h _ _ (skip_le hr) (by omega)]
theorem dt_one (a : Nat → Nat → Int) : dt 1 a = a 0 0 := by
  rw [dt_succ, tot, tot, dt_zero]; show 0 + 1 * (a 0 0 * 1) = a 0 0; omega
theorem dt_two (a : Nat → Nat → Int) : dt 2 a = a 0 0 * a 1 1 - a 1 0 * a 0 1 := by
  rw [dt_succ, tot, tot, tot, dt_one, dt_one]
  show 0 + 1 * (a 0 0 * a 1 1) + -1 * (a 1 0 * a 0 1) = _
  omega
/-- a row put in the place of another one -/
def rset (a : Nat → Nat → Int) (r : Nat) (v : Nat → Int) : Nat → Nat → Int := fun i j => if i = r then v j else a i j
theorem rset_at (a : Nat → Nat → Int) (r : Nat) (v : Nat → Int) (j : Nat) : rset a r v r j = v j := if_pos rfl
theorem rset_ne {a : Nat → Nat → Int} {r : Nat} {v : Nat → Int} {i j : Nat} (h : i ≠ r) : rset a r v i j = a i j := if_neg h
theorem rset_self (a : Nat → Nat → Int) (r : Nat) : rset a r (a r) = a := by
  funext i j
  by_cases h : i = r
  · subst h; exact rset_at ..
  · exact rset_ne h
/-- the row's place once another row is left out -/
def back (i r : Nat) : Nat := if r < i then r else r - 1
theorem skip_back {i r s : Nat} (h : r ≠ i) : skip i s = r ↔ s = back i r := by unfold skip back; split <;> split <;> omega
theorem back_lt {i r n : Nat} (h : r ≠ i) (hr : r < n + 1) (hi : i < n + 1) : back i r < n := by unfold back; split <;> omega
theorem minor_rset {a : Nat → Nat → Int} {i r : Nat} (v : Nat → Int) (h : r ≠ i) : (fun s c => rset a r v (skip i s) (c + 1)) = rset (fun s c => a (skip i s) (c + 1)) (back i r) fun c => v (c + 1) := by
  funext s c
  by_cases e : s = back i r
  · rw [show rset (fun s c => a (skip i s) (c + 1)) (back i r) (fun c => v (c + 1)) s c = v (c + 1) by rw [e, rset_at], (skip_back h).2 e, rset_at]
  · rw [rset_ne e, rset_ne fun w => e ((skip_back h).1 w)]
theorem minor_same {a : Nat → Nat → Int} {i : Nat} (v : Nat → Int) : (fun s c => rset a i v (skip i s) (c + 1)) = fun s c => a (skip i s) (c + 1) := by
  funext s c
  exact rset_ne (skip_ne i s)
theorem dt_lin : ∀ {n r : Nat} (a : Nat → Nat → Int) (x y : Int) (u v : Nat → Int), r < n → dt n (rset a r fun j => x * u j + y * v j) = x * dt n (rset a r u) + y * dt n (rset a r v)
  | 0, _, _, _, _, _, _, h => absurd h (by omega)
  | n + 1, r, a, x, y, u, v, h => by
    rw [dt_succ, dt_succ, dt_succ, ← tot_mul, ← tot_mul, ← tot_add]
    refine tot_congr fun i hi => ?_
    (try dsimp only)
    by_cases e : r = i
    · subst e
      rw [minor_same, minor_same, minor_same, rset_at, rset_at, rset_at]
      grind
    · have e' : i ≠ r := fun w => e w.symm
      rw [minor_rset _ e, minor_rset _ e, minor_rset _ e, rset_ne e', rset_ne e', rset_ne e', dt_lin (n := n) (r := back i r) _ x y _ _ (back_lt e h hi)]
      grind
theorem tot_two {f : Nat → Int} {k : Nat} : ∀ {n : Nat}, k + 1 < n → (∀ i, i < n → i ≠ k → i ≠ k + 1 → f i = 0) → tot f n = f k + f (k + 1)
  | 0, h, _ => absurd h (by omega)
  | n + 1, h, hf => by
    by_cases hk : k + 1 = n
    · subst hk; rw [tot, tot_single (n := k + 1) (k := k) (by omega) fun i hi hne => hf i (by omega) hne (by omega)]
    · rw [tot, tot_two (n := n) (by omega) (fun i hi => hf i (by omega)), hf n (by omega) (by omega) (by omega)]; omega
theorem dt_adj : ∀ {n r : Nat} {a : Nat → Nat → Int}, r + 1 < n → (∀ j, j < n → a r j = a (r + 1) j) → dt n a = 0
  | 0, _, _, h, _ => absurd h (by omega)
  | n + 1, r, a, h, he => by
    rw [dt_succ, tot_two (k := r) h fun i hi h1 h2 => ?_]
    · rw [sg_succ, ← he 0 (by omega), dt_congr (n := n) (a := fun s c => a (skip (r + 1) s) (c + 1)) (b := fun s c => a (skip r s) (c + 1)) fun s c hs hc => ?_]
      · grind
      · by_cases w : s = r
        · subst w; (try dsimp only); rw [skip_lt (by omega), skip_ge (by omega)]; exact he _ (by omega)
        · (try dsimp only)
          by_cases z : s < r
          · rw [skip_lt (by omega), skip_lt z]
          · rw [skip_ge (by omega), skip_ge (by omega)]
    · have : dt n (fun s c => a (skip i s) (c + 1)) = 0 := by
        by_cases w : r + 1 < i
        · refine dt_adj (r := r) (by omega) fun j hj => ?_
          (try dsimp only)
          rw [skip_lt (by omega), skip_lt (by omega)]; exact he _ (by omega)
        · refine dt_adj (r := r - 1) (by omega) fun j hj => ?_
          (try dsimp only)
          rw [skip_ge (by omega), skip_ge (by omega), show r - 1 + 1 = r by omega]; exact he _ (by omega)
      rw [this]; omega
/-- two rows exchanged -/
def rswap (a : Nat → Nat → Int) (r s : Nat) : Nat → Nat → Int := fun i j => a (if i = r then s else if i = s then r else i) j
theorem swap_anti {n r s : Nat} (hr : r < n) (hs : s < n) (hne : r ≠ s) (h : ∀ b : Nat → Nat → Int, (∀ j, j < n → b r j = b s j) → dt n b = 0) (a : Nat → Nat → Int) : dt n (rswap a r s) = -dt n a := by
  have two : ∀ u v : Nat → Int, rset (rset a r u) s v = rset (rset a s v) r u := fun u v => by
    funext i j
    unfold rset
    by_cases w : i = s
    · subst w; rw [if_pos rfl, if_neg (fun e => hne e.symm), if_pos rfl]
    · rw [if_neg w]
      by_cases z : i = r
      · rw [if_pos z, if_pos z]
      · rw [if_neg z, if_neg z, if_neg w]
  have zero : ∀ u : Nat → Int, dt n (rset (rset a r u) s u) = 0 := fun u => h _ fun j _ => by rw [rset_at, rset_ne hne, rset_at]
  have h0 := zero fun j => 1 * a r j + 1 * a s j
  rw [dt_lin _ 1 1 (a r) (a s) hs, two, two, dt_lin _ 1 1 (a r) (a s) hr, dt_lin _ 1 1 (a r) (a s) hr, ← two, ← two, ← two, ← two, zero, zero] at h0
  have e1 : rset (rset a r (a r)) s (a s) = a := by rw [rset_self, rset_self]
  have e2 : rset (rset a r (a s)) s (a r) = rswap a r s := by
    funext i j
    unfold rset rswap
    by_cases w : i = s
    · subst w; rw [if_pos rfl, if_neg (fun e => hne e.symm), if_pos rfl]
    · rw [if_neg w]
      by_cases z : i = r
      · rw [if_pos z, if_pos z]
      · rw [if_neg z, if_neg z, if_neg w]
  rw [e1, e2] at h0
  omega
theorem dt_adjswap {n r : Nat} (h : r + 1 < n) (a : Nat → Nat → Int) : dt n (rswap a r (r + 1)) = -dt n a :=
  swap_anti (by omega) h (by omega) (fun b hb => dt_adj h hb) a
theorem dt_alt' : ∀ (d : Nat) {n r : Nat} {a : Nat → Nat → Int}, r + 1 + d < n → (∀ j, j < n → a r j = a (r + 1 + d) j) → dt n a = 0
  | 0, n, r, a, h, he => dt_adj h he
  | d + 1, n, r, a, h, he => by
    have h1 : dt n (rswap a (r + 1 + d) (r + 1 + d + 1)) = 0 := dt_alt' d (r := r) (by omega) fun j hj => by
      unfold rswap
      (try dsimp only)
      rw [if_neg (show ¬ r = r + 1 + d by omega), if_neg (show ¬ r = r + 1 + d + 1 by omega), if_pos rfl]
      exact he j hj
    rw [dt_adjswap (by omega)] at h1
    omega
theorem dt_alt {n r s : Nat} {a : Nat → Nat → Int} (hr : r < n) (hs : s < n) (hne : r ≠ s) (he : ∀ j, j < n → a r j = a s j) : dt n a = 0 := by
  by_cases h : r < s
  · exact dt_alt' (s - r - 1) (r := r) (by omega) fun j hj => by rw [show r + 1 + (s - r - 1) = s by omega]; exact he j hj
  · exact dt_alt' (r - s - 1) (r := s) (by omega) fun j hj => by rw [show s + 1 + (r - s - 1) = r by omega]; exact (he j hj).symm
theorem dt_rswap {n r s : Nat} (hr : r < n) (hs : s < n) (hne : r ≠ s) (a : Nat → Nat → Int) : dt n (rswap a r s) = -dt n a :=
  swap_anti hr hs hne (fun b hb => dt_alt hr hs hne hb) a
/-- a row and other rows' -/
theorem dt_radd {n r s : Nat} (hr : r < n) (hs : s < n) (hne : r ≠ s) (a : Nat → Nat → Int) (c : Int) : dt n (rset a r fun j => a r j + c * a s j) = dt n a := by
  have : (fun j => a r j + c * a s j) = fun j => 1 * a r j + c * a s j := by funext j; omega
  rw [this, dt_lin a 1 c (a r) (a s) hr, rset_self, dt_alt (a := rset a r (a s)) hr hs hne fun j _ => by rw [rset_at, rset_ne fun w => hne w.symm]]
  omega
theorem dt_first {n : Nat} {a : Nat → Nat → Int} (h : ∀ i, 0 < i → i < n + 1 → a i 0 = 0) : dt (n + 1) a = a 0 0 * dt n fun i j => a (i + 1) (j + 1) := by
  rw [dt_succ, tot_single (k := 0) (by omega) fun i hi hne => by rw [h i (by omega) hi]; omega]
  rw [dt_congr (n := n) (a := fun r c => a (skip 0 r) (c + 1)) (b := fun i j => a (i + 1) (j + 1)) fun i j _ _ => by (try dsimp only); rw [skip_ge (by omega)]]
  show 1 * _ = _
  omega
theorem dt_col0 {n : Nat} {a : Nat → Nat → Int} (h : ∀ i, i < n + 1 → a i 0 = 0) : dt (n + 1) a = 0 := by
  rw [dt_first fun i _ hi => h i hi, h 0 (by omega)]; omega
theorem dt_last : ∀ {n : Nat} {a : Nat → Nat → Int}, (∀ j, j < n → a n j = 0) → dt (n + 1) a = a n n * dt n a
  | 0, a, _ => by rw [dt_one, dt_zero]; omega
  | n + 1, a, h => by
    rw [dt_succ, tot, h 0 (by omega), tot_congr (g := fun i => a (n + 1) (n + 1) * (sg i * (a i 0 * dt n fun r c => a (skip i r) (c + 1)))) fun i hi => ?_, tot_mul, ← dt_succ]
    · omega
    · rw [dt_last (n := n) fun j hj => by (try dsimp only); rw [skip_ge (by omega)]; exact h _ (by omega)]
      (try dsimp only)
      rw [skip_ge (by omega)]
      grind
theorem dt_scale (c : Int) : ∀ (n : Nat) (a : Nat → Nat → Int), dt n (fun i j => c * a i j) = c ^ n * dt n a
  | 0, _ => by rw [dt_zero, dt_zero, Int.pow_zero]; rfl
  | n + 1, a => by
    rw [dt_succ, dt_succ, ← tot_mul]
    refine tot_congr fun i _ => ?_
    rw [dt_scale c n fun r s => a (skip i r) (s + 1)]
    grind
/-! ### by the first row, and turned -/
theorem dt_row : ∀ (n : Nat) (a : Nat → Nat → Int), dt (n + 1) a = tot (fun j => sg j * (a 0 j * dt n fun r c => a (r + 1) (skip j c))) (n + 1)
  | 0, a => by rw [dt_one, tot, tot, dt_zero]; show _ = 0 + 1 * (a 0 0 * 1); omega
  | n + 1, a => by
    have front : ∀ (f : Nat → Int) (m : Nat), tot f (m + 1) = f 0 + tot (fun i => f (i + 1)) m := fun f m => by
      have := tot_split f 1 m
      rw [Nat.add_comm m 1, this, tot, tot, tot_congr (f := fun i => f (1 + i)) (g := fun i => f (i + 1)) fun i _ => by rw [Nat.add_comm]]; omega
    rw [dt_succ, front, front (fun j => sg j * _)]
    have e0 : (fun r c => a (skip 0 r) (c + 1)) = fun r c => a (r + 1) (skip 0 c) := by
      funext r c; rw [skip_ge (by omega), skip_ge (by omega)]
    rw [e0]
    congr 1
    have l : ∀ i, i < n + 1 → sg (i + 1) * (a (i + 1) 0 * dt (n + 1) fun r c => a (skip (i + 1) r) (c + 1)) = tot (fun j => sg (i + 1) * a (i + 1) 0 * (sg j * (a 0 (j + 1) * dt n fun r c => a (skip i r + 1) (skip j c + 1)))) (n + 1) := fun i hi => by
      rw [dt_row n, tot_mul, Int.mul_assoc]
      congr 2
      refine tot_congr fun j hj => ?_
      (try dsimp only)
      rw [skip_lt (by omega)]
      congr 3
      funext r c
      congr 1
      unfold skip; split <;> split <;> omega
    have r : ∀ j, j < n + 1 → sg (j + 1) * (a 0 (j + 1) * dt (n + 1) fun r c => a (r + 1) (skip (j + 1) c)) = tot (fun i => sg (i + 1) * a (i + 1) 0 * (sg j * (a 0 (j + 1) * dt n fun r c => a (skip i r + 1) (skip j c + 1)))) (n + 1) := fun j hj => by
      rw [dt_succ, ← Int.mul_assoc, ← tot_mul]
      refine tot_congr fun i hi => ?_
      (try dsimp only)
      rw [skip_lt (by omega), sg_succ, sg_succ]
      have e : (fun r c => a (skip i r + 1) (skip (j + 1) (c + 1))) = fun r c => a (skip i r + 1) (skip j c + 1) := by
        funext r c
        congr 1
        unfold skip; split <;> split <;> omega
      rw [e]
      grind
    rw [tot_congr l, tot_congr r]
    exact tot_swap _ _ _
theorem dt_turn : ∀ (n : Nat) (a : Nat → Nat → Int), dt n (fun i j => a j i) = dt n a
  | 0, _ => rfl
  | n + 1, a => by
    rw [dt_succ, dt_row]
    refine tot_congr fun i _ => ?_
    (try dsimp only)
    rw [dt_turn n fun r c => a (r + 1) (skip i c)]
/-! ### the step without fractions -/
theorem dt_chio (n : Nat) (a : Nat → Nat → Int) : dt (n + 1) a * a 0 0 ^ n = a 0 0 * dt n fun i j => a 0 0 * a (i + 1) (j + 1) - a (i + 1) 0 * a 0 (j + 1) := by
  have step : ∀ t, t ≤ n → dt (n + 1) (fun i j => if 0 < i ∧ i ≤ t then a 0 0 * a i j - a i 0 * a 0 j else a i j) = a 0 0 ^ t * dt (n + 1) a := by
    intro t
    induction t with
    | zero =>
      intro _
      rw [Int.pow_zero, Int.one_mul]
      exact dt_congr fun i j _ _ => if_neg (by omega)
    | succ t ih =>
      intro ht
      let b : Nat → Nat → Int := fun i j => if 0 < i ∧ i ≤ t then a 0 0 * a i j - a i 0 * a 0 j else a i j
      have e : (fun i j => if 0 < i ∧ i ≤ t + 1 then a 0 0 * a i j - a i 0 * a 0 j else a i j) = rset b (t + 1) fun j => a 0 0 * b (t + 1) j + (-a (t + 1) 0) * b 0 j := by
        funext i j
        have b1 : b (t + 1) j = a (t + 1) j := if_neg (by omega)
        have b0 : b 0 j = a 0 j := if_neg (by omega)
        by_cases w : i = t + 1
        · subst w; rw [rset_at, if_pos (by omega), b1, b0]; grind
        · rw [rset_ne w]
          show (if 0 < i ∧ i ≤ t + 1 then a 0 0 * a i j - a i 0 * a 0 j else a i j) = if 0 < i ∧ i ≤ t then a 0 0 * a i j - a i 0 * a 0 j else a i j
          by_cases z : 0 < i ∧ i ≤ t
          · rw [if_pos z, if_pos (by omega)]
          · rw [if_neg z, if_neg (by omega)]
      rw [e, dt_lin b (a 0 0) (-a (t + 1) 0) (b (t + 1)) (b 0) (by omega), rset_self, dt_alt (a := rset b (t + 1) (b 0)) (r := t + 1) (s := 0) (by omega) (by omega) (by omega) fun j _ => by rw [rset_at, rset_ne (by omega)]]
      show a 0 0 * dt (n + 1) b + _ = _
      rw [ih (by omega)]
      grind
  have h := step n (Nat.le_refl _)
  rw [dt_first fun i h0 hi => ?_, if_neg (by omega)] at h
  · rw [Int.mul_comm, ← h]
    congr 1
    exact dt_congr fun i j hi _ => if_pos (by omega)
  · rw [if_pos (by omega)]; grind
/-! ### how great a determinant can be -/
/-- what stands in a column, the signs left away -/
def csum (a : Nat → Nat → Int) (c : Nat) : Nat → Nat
  | 0 => 0
  | n + 1 => csum a c n + (a n c).natAbs
theorem csum_skip {a : Nat → Nat → Int} {c i : Nat} : ∀ {n : Nat}, csum (fun r c => a (skip i r) c) c n + (if i < n + 1 then (a i c).natAbs else 0) = csum a c (n + if i < n + 1 then 1 else 0)
  | 0 => by
    by_cases h : i < 0 + 1
    · have : i = 0 := by omega
      subst this
      rw [if_pos h, if_pos h]; rfl
    · rw [if_neg h, if_neg h]; rfl
  | n + 1 => by
    have ih := csum_skip (a := a) (c := c) (i := i) (n := n)
    by_cases h : i < n + 1
    · rw [if_pos h, if_pos h] at ih
      rw [if_pos (by omega), if_pos (by omega), csum, csum, ← ih, skip_ge (by omega)]; omega
    · by_cases z : i = n + 1
      · subst z
        rw [if_neg h, if_neg h] at ih
        rw [if_pos (by omega), if_pos (by omega), csum, csum, csum, skip_lt (by omega)]
        have : csum a c (n + 0) = csum a c n := rfl
        omega
      · rw [if_neg h, if_neg h] at ih
        rw [if_neg (by omega), if_neg (by omega), csum, skip_lt (by omega)]
        show _ = csum a c (n + 1)
        rw [csum]
        have : csum a c (n + 0) = csum a c n := rfl
        omega
theorem csum_minor {a : Nat → Nat → Int} {c i n : Nat} (h : i < n + 1) : csum (fun r c => a (skip i r) c) c n ≤ csum a c (n + 1) := by
  have := csum_skip (a := a) (c := c) (i := i) (n := n)
  rw [if_pos h, if_pos h] at this
  omega
theorem csum_shift (a : Nat → Nat → Int) (c : Nat) : ∀ n, csum (fun r c => a r (c + 1)) c n = csum a (c + 1) n
  | 0 => rfl
  | n + 1 => by rw [csum, csum, csum_shift a c n]
/-- the product of the columns' sums -/
def cpr (f : Nat → Nat) : Nat → Nat
  | 0 => 1
  | n + 1 => cpr f n * f n
theorem cpr_le {f g : Nat → Nat} : ∀ {n : Nat}, (∀ i, i < n → f i ≤ g i) → cpr f n ≤ cpr g n
  | 0, _ => Nat.le_refl _
  | n + 1, h => Nat.mul_le_mul (cpr_le fun i hi => h i (by omega)) (h n (by omega))
theorem cpr_front (f : Nat → Nat) : ∀ n, cpr f (n + 1) = f 0 * cpr (fun i => f (i + 1)) n
  | 0 => by simp [cpr]
  | n + 1 => by rw [cpr, cpr_front f n, cpr, Nat.mul_assoc]
theorem tot_natAbs {f : Nat → Int} {a : Nat → Nat → Int} {B : Nat} : ∀ {n : Nat}, (∀ i, i < n → (f i).natAbs ≤ (a i 0).natAbs * B) → (tot f n).natAbs ≤ csum a 0 n * B
  | 0, _ => by simp [tot]
  | n + 1, h => by
    have h1 := tot_natAbs (n := n) fun i hi => h i (by omega)
    have h2 := h n (by omega)
    rw [tot, csum, Nat.add_mul]
    have := Int.natAbs_add_le (tot f n) (f n)
    omega
theorem dt_bound : ∀ (n : Nat) (a : Nat → Nat → Int), (dt n a).natAbs ≤ cpr (fun c => csum a c n) n
  | 0, _ => by simp [dt, cpr]
  | n + 1, a => by
    rw [dt_succ, cpr_front]
    refine tot_natAbs fun i hi => ?_
    rw [Int.natAbs_mul, Int.natAbs_mul, show (sg i).natAbs = 1 by unfold sg; split <;> rfl, Nat.one_mul]
    refine Nat.mul_le_mul (Nat.le_refl _) (Nat.le_trans (dt_bound n _) (cpr_le fun c hc => ?_))
    rw [csum_shift (fun r c => a (skip i r) c) c n]
    exact csum_minor hi
end Go.Proofs.Ytdpkdicciclobaa
