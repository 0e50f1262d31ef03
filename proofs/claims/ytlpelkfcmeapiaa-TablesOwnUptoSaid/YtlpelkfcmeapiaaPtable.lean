/- Tables of 0 and 1 by their sums: if there is one, there is one whose first row stands where the most is still wanted. No program in sight. -/
import Derived.Test.YtlpelkfcmeapiaaPlA
namespace Go.Proofs.Ytlpelkfcmeapiaa
open Go Go.Proofs.Ytlpelkfcmeapiaa.Sx
set_option linter.unusedVariables false
set_option linter.unusedSimpArgs false
/-- a table of m + 1 rows and n columns with these sums -/
structure Tab (m n : Nat) (R C : Nat → Int) (M : Nat → Nat → Int) : Prop where
  b : ∀ i k, M i k = 0 ∨ M i k = 1
  r : ∀ i, i < m + 1 → tot (M i) n = R i
  c : ∀ k, k < n → tot (fun i => M i k) (m + 1) = C k
/-- two entries of two rows changed over -/
def swapM (M : Nat → Nat → Int) (j k k' : Nat) : Nat → Nat → Int := fun i y => if i = 0 then (if y = k then 1 else if y = k' then 0 else M 0 y) else if i = j then (if y = k then 0 else if y = k' then 1 else M j y) else M i y
theorem tot_two' {f g : Nat → Int} {a b n : Nat} (ha : a < n) (hb : b < n) (hab : a ≠ b) (h : ∀ i, i < n → i ≠ a → i ≠ b → f i = g i) (hs : f a + f b = g a + g b) : tot f n = tot g n := by
  have e := tot_sub f g n
  have e2 : tot (fun i => f i - g i) n = 0 := by
    have e3 := tot_sub (fun i => f i - g i) (fun i => if i = a then f a - g a else 0) n
    have e4 : tot (fun i => if i = a then f a - g a else 0) n = f a - g a := by
      rw [tot_single (k := a) ha fun i _ hi => if_neg hi, if_pos rfl]
    have e5 : tot (fun i => (f i - g i) - (if i = a then f a - g a else 0)) n = f b - g b := by
      rw [tot_single (k := b) hb fun i hi hne => ?_]
      · rw [if_neg (fun z => hab z.symm)]; omega
      · by_cases z : i = a
        · rw [if_pos z, z]; omega
        · rw [if_neg z, h i hi z hne]; omega
    omega
  omega
theorem swap_tab {m n : Nat} {R C : Nat → Int} {M : Nat → Nat → Int} (h : Tab m n R C M) {j k k' : Nat} (hj : j < m + 1) (hj0 : j ≠ 0) (hk : k < n) (hk' : k' < n) (hkk : k ≠ k') (h1 : M 0 k = 0) (h2 : M 0 k' = 1) (h3 : M j k = 1) (h4 : M j k' = 0) : Tab m n R C (swapM M j k k') := by
  refine ⟨fun i y => ?_, fun i hi => ?_, fun y hy => ?_⟩
  · unfold swapM
    repeat' split
    all_goals first | exact .inl rfl | exact .inr rfl | exact h.b _ _
  · rw [← h.r i hi]
    by_cases z : i = 0
    · subst z
      refine tot_two' hk hk' hkk (fun y _ n1 n2 => ?_) ?_
      · unfold swapM; rw [if_pos rfl, if_neg n1, if_neg n2]
      · unfold swapM; rw [if_pos rfl, if_pos rfl, if_pos rfl, if_neg (fun q => hkk q.symm), if_pos rfl, h1, h2]; rfl
    · by_cases z2 : i = j
      · subst z2
        refine tot_two' hk hk' hkk (fun y _ n1 n2 => ?_) ?_
        · unfold swapM; rw [if_neg z, if_pos rfl, if_neg n1, if_neg n2]
        · unfold swapM; rw [if_neg z, if_pos rfl, if_pos rfl, if_neg z, if_pos rfl, if_neg (fun q => hkk q.symm), if_pos rfl, h3, h4]; rfl
      · exact tot_congr fun y _ => by unfold swapM; rw [if_neg z, if_neg z2]
  · rw [← h.c y hy]
    by_cases z : y = k
    · subst z
      refine tot_two' (a := 0) (b := j) (by omega) hj (fun q => hj0 q.symm) (fun i _ n1 n2 => ?_) ?_
      · unfold swapM; rw [if_neg n1, if_neg n2]
      · unfold swapM; rw [if_pos rfl, if_pos rfl, if_neg hj0, if_pos rfl, if_pos rfl, h1, h3]; rfl
    · by_cases z2 : y = k'
      · subst z2
        refine tot_two' (a := 0) (b := j) (by omega) hj (fun q => hj0 q.symm) (fun i _ n1 n2 => ?_) ?_
        · unfold swapM; rw [if_neg n1, if_neg n2]
        · unfold swapM; rw [if_pos rfl, if_neg z, if_pos rfl, if_neg hj0, if_pos rfl, if_neg z, if_pos rfl, h2, h4]; rfl
      · exact tot_congr fun i _ => by
          unfold swapM
          by_cases a : i = 0
          · rw [if_pos a, if_neg z, if_neg z2, a]
          · rw [if_neg a]
            by_cases b : i = j
            · rw [if_pos b, if_neg z, if_neg z2, b]
            · rw [if_neg b]
/-- in how many columns the first row is not G -/
def offG (M : Nat → Nat → Int) (G : Nat → Int) (n : Nat) : Int := tot (fun k => if M 0 k = G k then 0 else 1) n
theorem tot_lt' {f g : Nat → Int} {n : Nat} (h : ∀ i, i < n → f i ≤ g i) {k : Nat} (hk : k < n) (hlt : f k < g k) : tot f n < tot g n := by
  have h1 := tot_le h
  rcases Int.lt_or_eq_of_le h1 with h2 | h2
  · exact h2
  · have := tot_eq_each h h2 k hk
    omega
theorem greedy_row {m n : Nat} {R C : Nat → Int} {G : Nat → Int} (hG : ∀ k, G k = 0 ∨ G k = 1) (hGs : tot G n = R 0) (htop : ∀ k k', k < n → k' < n → G k = 1 → G k' = 0 → C k' ≤ C k) :
    ∀ (d : Nat) (M : Nat → Nat → Int), Tab m n R C M → offG M G n ≤ d → ∃ M', Tab m n R C M' ∧ ∀ k, k < n → M' 0 k = G k
  | 0, M, hM, hd => by
    refine ⟨M, hM, fun k hk => Classical.byContradiction fun z => ?_⟩
    have : 0 < offG M G n := by
      unfold offG
      have := tot_lt' (f := fun _ => 0) (g := fun k => if M 0 k = G k then 0 else 1) (n := n) (fun i _ => by split <;> omega) hk (by rw [if_neg z]; omega)
      rwa [tot_zero fun _ _ => rfl] at this
    omega
  | d + 1, M, hM, hd => by
    by_cases hall : ∀ k, k < n → M 0 k = G k
    · exact ⟨M, hM, hall⟩
    have hsum : tot (M 0) n = tot G n := by rw [hM.r 0 (by omega), hGs]
    -- a column that the first row lacks, and one that it has too much
    obtain ⟨k, hk, k1, k2⟩ : ∃ k, k < n ∧ G k = 1 ∧ M 0 k = 0 := Classical.byContradiction fun hno => hall fun k hk => by
      have hle : ∀ i, i < n → G i ≤ M 0 i := fun i hi => Classical.byContradiction fun z => hno ⟨i, hi, by
        have := hG i; have := hM.b 0 i; omega, by have := hG i; have := hM.b 0 i; omega⟩
      exact (tot_eq_each hle hsum.symm k hk).symm
    obtain ⟨k', hk', k3, k4⟩ : ∃ k', k' < n ∧ G k' = 0 ∧ M 0 k' = 1 := Classical.byContradiction fun hno => hall fun k hk => by
      have hle : ∀ i, i < n → M 0 i ≤ G i := fun i hi => Classical.byContradiction fun z => hno ⟨i, hi, by
        have := hG i; have := hM.b 0 i; omega, by have := hG i; have := hM.b 0 i; omega⟩
      exact tot_eq_each hle hsum k hk
    have hkk : k ≠ k' := fun z => by rw [z] at k1; omega
    have hC := htop k k' hk hk' k1 k3
    have c1 := hM.c k hk
    have c2 := hM.c k' hk'
    -- a row that has the one and lacks the other
    obtain ⟨j, hj, j0, j1, j2⟩ : ∃ j, j < m + 1 ∧ j ≠ 0 ∧ M j k = 1 ∧ M j k' = 0 := Classical.byContradiction fun hno => by
      have hle : ∀ i, i < m + 1 → M i k ≤ M i k' := fun i hi => by
        by_cases z : i = 0
        · rw [z, k2, k4]; omega
        · refine Classical.byContradiction fun w => hno ⟨i, hi, z, ?_, ?_⟩ <;> (have := hM.b i k; have := hM.b i k'; omega)
      have := tot_lt' hle (show 0 < m + 1 by omega) (by rw [k2, k4]; omega)
      omega
    have hT := swap_tab hM hj j0 hk hk' hkk k2 k4 j1 j2
    refine greedy_row hG hGs htop d _ hT ?_
    have hlt : offG (swapM M j k k') G n < offG M G n := by
      unfold offG
      refine tot_lt' (fun y hy => ?_) hk ?_
      · try dsimp only
        unfold swapM
        rw [if_pos rfl]
        by_cases z : y = k
        · rw [if_pos z, z, k1, if_pos rfl]; split <;> omega
        · rw [if_neg z]
          by_cases z2 : y = k'
          · rw [if_pos z2, z2, k3, if_pos rfl]; split <;> omega
          · rw [if_neg z2]; exact Int.le_refl _
      · try dsimp only
        unfold swapM
        rw [if_pos rfl, if_pos rfl, k1, if_pos rfl, k2, if_neg (by omega)]
        omega
    omega
end Go.Proofs.Ytlpelkfcmeapiaa
