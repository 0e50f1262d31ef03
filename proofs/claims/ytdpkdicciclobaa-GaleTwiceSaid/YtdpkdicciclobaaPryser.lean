/- Gale and Ryser: a table of 0 and 1 with these sums is there just if the greatest so many columns, together, are no more than the rows let them be. No program in sight. -/
import Derived.Test.YtdpkdicciclobaaPtable
namespace Go.Proofs.Ytdpkdicciclobaa
open Go Go.Proofs.Ytdpkdicciclobaa.Sx
set_option linter.unusedVariables false
set_option linter.unusedSimpArgs false
/-- columns below k are full, those behind k are empty, no row has too much -/
structure RySt (m n : Nat) (R C : Nat → Int) (k : Nat) (M : Nat → Nat → Int) : Prop where
  b : ∀ i j, M i j = 0 ∨ M i j = 1
  r : ∀ i, i < m → tot (M i) n ≤ R i
  c : ∀ j, j < k → j < n → tot (fun i => M i j) m = C j
  l : tot (fun i => M i k) m ≤ C k
  z : ∀ i j, k < j → M i j = 0
def setM (M : Nat → Nat → Int) (a b : Nat) (v : Int) : Nat → Nat → Int := fun i j => if i = a ∧ j = b then v else M i j
theorem setM_row {M : Nat → Nat → Int} {a b n : Nat} {v : Int} (hb : b < n) (i : Nat) : (i ≠ a ∧ tot (setM M a b v i) n = tot (M i) n) ∨ (i = a ∧ tot (setM M a b v i) n = tot (M i) n + (v - M a b)) := by
  by_cases h : i = a
  · subst h
    refine .inr ⟨rfl, ?_⟩
    have e := tot_sub (setM M i b v i) (M i) n
    have e2 : tot (fun j => setM M i b v i j - M i j) n = v - M i b := by
      rw [tot_single (k := b) hb fun j _ hne => by unfold setM; rw [if_neg (fun q => hne q.2)]; omega]
      unfold setM; rw [if_pos ⟨rfl, rfl⟩]
    omega
  · exact .inl ⟨h, tot_congr fun j _ => if_neg fun q => h q.1⟩
theorem setM_col {M : Nat → Nat → Int} {a b m : Nat} {v : Int} (ha : a < m) (j : Nat) : (j ≠ b ∧ tot (fun i => setM M a b v i j) m = tot (fun i => M i j) m) ∨ (j = b ∧ tot (fun i => setM M a b v i j) m = tot (fun i => M i j) m + (v - M a b)) := by
  by_cases h : j = b
  · subst h
    refine .inr ⟨rfl, ?_⟩
    have e := tot_sub (fun i => setM M a j v i j) (fun i => M i j) m
    have e2 : tot (fun i => setM M a j v i j - M i j) m = v - M a j := by
      rw [tot_single (k := a) ha fun i _ hne => by unfold setM; rw [if_neg (fun q => hne q.1)]; omega]
      unfold setM; rw [if_pos ⟨rfl, rfl⟩]
    omega
  · exact .inl ⟨h, tot_congr fun i _ => if_neg fun q => h q.2⟩
theorem setM_ne {M : Nat → Nat → Int} {a b i j : Nat} {v : Int} (h : ¬ (i = a ∧ j = b)) : setM M a b v i j = M i j := if_neg h
theorem setM_b {M : Nat → Nat → Int} {a b : Nat} {v : Int} (hM : ∀ i j, M i j = 0 ∨ M i j = 1) (hv : v = 0 ∨ v = 1) (i j : Nat) : setM M a b v i j = 0 ∨ setM M a b v i j = 1 := by
  unfold setM
  split
  · exact hv
  · exact hM i j
theorem ry_step {m n k : Nat} {R C : Nat → Int} {M : Nat → Nat → Int} (hk : k < n) (hdesc : ∀ j, j < k → C k ≤ C j) (hdom : tot C (k + 1) ≤ tot (fun i => min (R i) ((k + 1 : Nat) : Int)) m) (h : RySt m n R C k M) (hlt : tot (fun i => M i k) m < C k) :
    ∃ M', RySt m n R C k M' ∧ tot (fun i => M i k) m < tot (fun i => M' i k) m := by
  have hrow : ∀ i, tot (M i) n = tot (M i) (k + 1) := fun i => by
    have := tot_split (M i) (k + 1) (n - (k + 1))
    rw [show k + 1 + (n - (k + 1)) = n by omega, tot_zero (f := fun j => M i (k + 1 + j)) fun j _ => h.z i _ (by omega)] at this
    omega
  have hi : ∃ i, i < m ∧ tot (M i) n < min (R i) ((k + 1 : Nat) : Int) := Classical.byContradiction fun hno => by
    have h1 : tot (fun i => min (R i) ((k + 1 : Nat) : Int)) m ≤ tot (fun i => tot (M i) (k + 1)) m := tot_le fun i hi => by
      rw [← hrow]
      by_cases z : tot (M i) n < min (R i) ((k + 1 : Nat) : Int)
      · exact absurd ⟨i, hi, z⟩ hno
      · omega
    rw [tot_swap (fun i j => M i j)] at h1
    have h2 : tot (fun j => tot (fun i => M i j) m) (k + 1) < tot C (k + 1) := tot_lt' (fun j hj => by
      by_cases z : j = k
      · subst z; exact h.l
      · exact Int.le_of_eq (h.c j (by omega) (by omega))) (k := k) (by omega) hlt
    omega
  obtain ⟨i', i1, i2⟩ := hi
  have hj : ∃ j, j < k + 1 ∧ M i' j = 0 := Classical.byContradiction fun hno => by
    have : tot (M i') (k + 1) = tot (fun _ => 1) (k + 1) := tot_congr fun j hj => by
      rcases h.b i' j with z | z
      · exact absurd ⟨j, hj, z⟩ hno
      · exact z
    rw [tot_const, ← hrow] at this
    omega
  by_cases hjk : M i' k = 0
  · refine ⟨setM M i' k 1, ⟨setM_b h.b (.inr rfl), fun i hi => ?_, fun j hj hj2 => ?_, ?_, fun i j hj => ?_⟩, ?_⟩
    · have t := setM_row (M := M) (a := i') (v := 1) hk i
      have := h.r i hi
      have : i = i' → tot (M i) n + 1 ≤ R i := fun z => by subst z; omega
      omega
    · have t := setM_col (M := M) (b := k) (v := 1) i1 j
      have := h.c j hj hj2
      omega
    · have t := setM_col (M := M) (b := k) (v := 1) i1 k
      omega
    · rw [setM_ne (by omega)]; exact h.z i j hj
    · have t := setM_col (M := M) (b := k) (v := 1) i1 k
      omega
  · obtain ⟨j, j1, j2⟩ := hj
    have hjk' : j ≠ k := fun z => by subst z; exact hjk j2
    have hcj := h.c j (by omega) (by omega)
    have hd := hdesc j (by omega)
    have hx : ∃ i, i < m ∧ M i j = 1 ∧ M i k = 0 := Classical.byContradiction fun hno => by
      have : tot (fun i => M i j) m ≤ tot (fun i => M i k) m := tot_le fun i hi => by
        rcases h.b i j with z | z
        · have := h.b i k; omega
        · rcases h.b i k with y | y
          · exact absurd ⟨i, hi, z, y⟩ hno
          · omega
      omega
    obtain ⟨i, x1, x2, x3⟩ := hx
    have hii : i ≠ i' := fun z => by subst z; omega
    have B1 := setM_b (a := i) (b := j) (v := 0) h.b (.inl rfl)
    have B2 := setM_b (a := i) (b := k) (v := 1) B1 (.inr rfl)
    have B3 := setM_b (a := i') (b := j) (v := 1) B2 (.inr rfl)
    have e2 : setM M i j 0 i k = 0 := by rw [setM_ne (by omega)]; exact x3
    have e3 : setM (setM M i j 0) i k 1 i' j = 0 := by rw [setM_ne (by omega), setM_ne (by omega)]; exact j2
    refine ⟨_, ⟨B3, fun x hx => ?_, fun y hy hy2 => ?_, ?_, fun x y hy => ?_⟩, ?_⟩
    · have t1 := setM_row (M := M) (a := i) (b := j) (v := 0) (show j < n by omega) x
      have t2 := setM_row (M := setM M i j 0) (a := i) (b := k) (v := 1) hk x
      have t3 := setM_row (M := setM (setM M i j 0) i k 1) (a := i') (b := j) (v := 1) (show j < n by omega) x
      have := h.r x hx
      have : x = i' → tot (M x) n + 1 ≤ R x := fun z => by subst z; omega
      omega
    · have t1 := setM_col (M := M) (b := j) (v := 0) x1 y
      have t2 := setM_col (M := setM M i j 0) (b := k) (v := 1) x1 y
      have t3 := setM_col (M := setM (setM M i j 0) i k 1) (b := j) (v := 1) i1 y
      have := h.c y hy hy2
      omega
    · have t1 := setM_col (M := M) (b := j) (v := 0) x1 k
      have t2 := setM_col (M := setM M i j 0) (b := k) (v := 1) x1 k
      have t3 := setM_col (M := setM (setM M i j 0) i k 1) (b := j) (v := 1) i1 k
      omega
    · rw [setM_ne (by omega), setM_ne (by omega), setM_ne (by omega)]; exact h.z x y hy
    · have t1 := setM_col (M := M) (b := j) (v := 0) x1 k
      have t2 := setM_col (M := setM M i j 0) (b := k) (v := 1) x1 k
      have t3 := setM_col (M := setM (setM M i j 0) i k 1) (b := j) (v := 1) i1 k
      omega
theorem ry_fill {m n k : Nat} {R C : Nat → Int} (hk : k < n) (hC : 0 ≤ C (k + 1)) (hdesc : ∀ j, j < k → C k ≤ C j) (hdom : tot C (k + 1) ≤ tot (fun i => min (R i) ((k + 1 : Nat) : Int)) m) :
    ∀ (q : Nat) (M : Nat → Nat → Int), RySt m n R C k M → (C k - tot (fun i => M i k) m).toNat ≤ q → ∃ M', RySt m n R C (k + 1) M'
  | 0, M, h, hq => ⟨M, h.b, h.r, fun j h1 h2 => by
      by_cases z : j = k
      · subst z; have := h.l; omega
      · exact h.c j (by omega) h2, by rw [tot_zero fun i _ => h.z i (k + 1) (by omega)]; exact hC, fun i j hj => h.z i j (by omega)⟩
  | q + 1, M, h, hq => by
    by_cases c : tot (fun i => M i k) m < C k
    · obtain ⟨M', h', hl⟩ := ry_step hk hdesc hdom h c
      have := h'.l
      exact ry_fill hk hC hdesc hdom q M' h' (by omega)
    · exact ry_fill hk hC hdesc hdom q M h (by omega)
theorem ryser {m n : Nat} {R C : Nat → Int} (hR : ∀ i, i < m → 0 ≤ R i) (hC : ∀ j, 0 ≤ C j) (hdesc : ∀ i j, i < j → j < n → C j ≤ C i) (hdom : ∀ k, k < n → tot C (k + 1) ≤ tot (fun i => min (R i) ((k + 1 : Nat) : Int)) m) (hs : tot R m = tot C n) :
    ∃ M : Nat → Nat → Int, (∀ i j, M i j = 0 ∨ M i j = 1) ∧ (∀ i, i < m → tot (M i) n = R i) ∧ ∀ j, j < n → tot (fun i => M i j) m = C j := by
  have all : ∀ k, k ≤ n → ∃ M, RySt m n R C k M := fun k => by
    induction k with
    | zero =>
      intro _
      exact ⟨fun _ _ => 0, fun _ _ => .inl rfl, fun i hi => by rw [tot_zero fun _ _ => rfl]; exact hR i hi, fun j hj _ => absurd hj (by omega), by rw [tot_zero fun _ _ => rfl]; exact hC 0, fun _ _ _ => rfl⟩
    | succ k ih =>
      intro hk
      obtain ⟨M, h⟩ := ih (by omega)
      exact ry_fill (by omega) (hC (k + 1)) (fun j hj => hdesc j k hj (by omega)) (hdom k (by omega)) _ M h (Nat.le_refl _)
  obtain ⟨M, h⟩ := all n (Nat.le_refl _)
  have hc : ∀ j, j < n → tot (fun i => M i j) m = C j := fun j hj => h.c j hj hj
  refine ⟨M, h.b, fun i hi => ?_, hc⟩
  have e : tot (fun i => tot (M i) n) m = tot R m := by
    rw [tot_swap (fun i j => M i j), tot_congr fun j hj => hc j hj, hs]
  exact tot_eq_each h.r e i hi
theorem ryser_only {m n : Nat} {R C : Nat → Int} {M : Nat → Nat → Int} (h1 : ∀ i j, M i j = 0 ∨ M i j = 1) (h2 : ∀ i, i < m → tot (M i) n = R i) (h3 : ∀ j, j < n → tot (fun i => M i j) m = C j) {k : Nat} (hk : k ≤ n) : tot C k ≤ tot (fun i => min (R i) (k : Int)) m := by
  rw [tot_congr (f := C) (g := fun j => tot (fun i => M i j) m) fun j hj => (h3 j (by omega)).symm, tot_swap (fun j i => M i j)]
  refine tot_le fun i hi => ?_
  have a : tot (fun j => M i j) k ≤ k := by
    have := tot_le (f := fun j => M i j) (g := fun _ => 1) (n := k) fun j _ => by have := h1 i j; omega
    rw [tot_const] at this; omega
  have b : tot (fun j => M i j) k ≤ R i := by
    rw [← h2 i hi, ← show k + (n - k) = n by omega, tot_split (M i) k (n - k)]
    have := tot_nonneg (f := fun j => M i (k + j)) (n := n - k) fun j _ => by have := h1 i (k + j); omega
    show tot (M i) k ≤ _
    omega
  omega
end Go.Proofs.Ytdpkdicciclobaa
