/- A tree by which what parts any two is told (Gomory, Hu; Gusfield's way). No program. -/
import Derived.Test.YtdpkdicciclobaaPlB
namespace Go.Proofs.Ytdpkdicciclobaa
open Go Go.Proofs.Ytdpkdicciclobaa.Sx
set_option linter.unusedVariables false
set_option linter.unusedSimpArgs false
/-- sets of nodes, what leads over their edge, and what parts two -/
structure Cuts (n : Nat) (A : (Nat → Bool) → Int) (lam : Nat → Nat → Int) : Prop where
  ge : ∀ X s t, s < n → t < n → X s = true → X t = false → lam s t ≤ A X
  att : ∀ s t, s < n → t < n → s ≠ t → ∃ X, X s = true ∧ X t = false ∧ A X = lam s t
  sym : ∀ s t, s < n → t < n → lam s t = lam t s
  posi : ∀ X Z, A (fun x => X x && !Z x) + A (fun x => Z x && !X x) ≤ A X + A Z
section
variable {n : Nat} {A : (Nat → Bool) → Int} {lam : Nat → Nat → Int}
theorem Cuts.ge2 (h : Cuts n A lam) {X : Nat → Bool} {s t : Nat} (hs : s < n) (ht : t < n) (hne : X s ≠ X t) : lam s t ≤ A X := by
  cases e : X s with
  | true => exact h.ge X s t hs ht e (by cases e2 : X t with | false => rfl | true => exact absurd (e.trans e2.symm) hne)
  | false =>
    rw [h.sym s t hs ht]
    exact h.ge X t s ht hs (by cases e2 : X t with | true => rfl | false => exact absurd (e.trans e2.symm) hne) e
theorem Cuts.ultra (h : Cuts n A lam) {s t u : Nat} (hs : s < n) (ht : t < n) (hu : u < n) (hne : s ≠ t) : lam s u ≤ lam s t ∨ lam u t ≤ lam s t := by
  obtain ⟨X, x1, x2, x3⟩ := h.att s t hs ht hne
  cases e : X u with
  | true => right; rw [← x3]; exact h.ge X u t hu ht e x2
  | false => left; rw [← x3]; exact h.ge X s u hs hu x1 e
/-- who hangs on whom, ahead of step a -/
def hang (X : Nat → Nat → Bool) : Nat → Nat → Nat
  | 0, _ => 0
  | a + 1, k => if 0 < a ∧ a < k ∧ X a k = true ∧ hang X a k = hang X a a then a else hang X a k
theorem hang_lt (X : Nat → Nat → Bool) : ∀ a k, 0 < a → hang X a k < a
  | a + 1, k, _ => by
    unfold hang
    split
    · omega
    · by_cases c : a = 0
      · subst c; exact Nat.zero_lt_one
      · have := hang_lt X a k (by omega); omega
theorem hang_stay (X : Nat → Nat → Bool) {a k : Nat} (h : k ≤ a) : hang X (a + 1) k = hang X a k := by
  rw [hang, if_neg (by omega)]
theorem hang_stays (X : Nat → Nat → Bool) {k : Nat} : ∀ d, hang X (k + d) k = hang X k k
  | 0 => rfl
  | d + 1 => by rw [show k + (d + 1) = k + d + 1 by omega, hang_stay X (by omega), hang_stays X d]
/-- Nothing ahead of s parts less from s than what s hangs on. -/
theorem gusfield (h : Cuts n A lam) {X : Nat → Nat → Bool} (hX : ∀ a, 0 < a → a < n → X a a = true ∧ X a (hang X a a) = false ∧ A (X a) = lam a (hang X a a)) {s j : Nat} (hs : s < n) (h0 : 0 < s) (hj : j < s) :
    lam s j ≤ lam s (hang X s s) := by
  refine Classical.byContradiction fun hno => ?_
  obtain ⟨M, hM⟩ : ∃ M, M = lam s j := ⟨_, rfl⟩
  -- the first one that is so near
  have least : ∃ c, (c < s ∧ M ≤ lam s c) ∧ ∀ y, y < c → ¬ (y < s ∧ M ≤ lam s y) := by
    have : ∀ m, (∃ c, c < m ∧ c < s ∧ M ≤ lam s c) → ∃ c, (c < s ∧ M ≤ lam s c) ∧ ∀ y, y < c → ¬ (y < s ∧ M ≤ lam s y) := by
      intro m
      induction m with
      | zero => rintro ⟨c, hc, _⟩; omega
      | succ m ih =>
        rintro ⟨c, hc, h1, h2⟩
        by_cases q : ∃ c, c < m ∧ c < s ∧ M ≤ lam s c
        · exact ih q
        · refine ⟨c, ⟨h1, h2⟩, fun y hy hz => q ⟨y, by omega, hz⟩⟩
    exact this (j + 1) ⟨j, by omega, hj, by omega⟩
  obtain ⟨c, ⟨hcs, hcM⟩, hmin⟩ := least
  have hcn : c < n := by omega
  -- nothing ahead of c parts both
  have same : ∀ a, a ≤ c → hang X a s = hang X a c ∧ (0 < a → a < c → X a s = X a c) := by
    have nopart : ∀ a, 0 < a → a < c → X a s = X a c := fun a ha hac => by
      refine Classical.byContradiction fun hne => ?_
      obtain ⟨x1, x2, x3⟩ := hX a ha (by omega)
      have hu := hang_lt X a a ha
      obtain ⟨u, eu⟩ : ∃ u, u = hang X a a := ⟨_, rfl⟩
      rw [← eu] at x2 x3 hu
      have la : lam s a < M := by have := hmin a hac; omega
      have g1 := h.ge2 hs hcn hne
      obtain ⟨Z, z1, z2, z3⟩ := h.att s a hs (by omega) (by omega)
      have zc : Z c = true := by
        cases e : Z c with
        | true => rfl
        | false => have := h.ge Z s c hs hcn z1 e; omega
      have zu : Z u = false := by
        cases e : Z u with
        | false => rfl
        | true =>
          have := h.ge Z u a (by omega) (by omega) e z2
          rw [h.sym u a (by omega) (by omega)] at this
          omega
      have p := h.posi (X a) Z
      have p1 := h.ge (fun x => X a x && !Z x) a u (by omega) (by omega) (by simp [x1, z2]) (by simp [x2])
      have p2 := h.ge2 (X := fun x => Z x && !X a x) hs hcn (by simp [z1, zc]; exact hne)
      omega
    intro a ha
    refine ⟨?_, fun h1 h2 => nopart a h1 h2⟩
    induction a with
    | zero => rfl
    | succ a ih =>
      have := ih (by omega)
      rw [hang, hang]
      by_cases q : 0 < a
      · rw [nopart a q (by omega), this]
        by_cases q2 : X a c = true ∧ hang X a c = hang X a a
        · rw [if_pos ⟨q, by omega, q2⟩, if_pos ⟨q, by omega, q2⟩]
        · rw [if_neg (fun z => q2 z.2.2), if_neg (fun z => q2 z.2.2)]
      · rw [if_neg (fun z => q z.1), if_neg (fun z => q z.1), this]
  -- at step c it comes to hang on c
  have base : hang X (c + 1) s = c := by
    by_cases q : c = 0
    · subst q; rw [hang, if_neg (by omega)]; rfl
    · obtain ⟨x1, x2, x3⟩ := hX c (by omega) hcn
      have hb := hang_lt X c c (by omega)
      obtain ⟨b, eb⟩ : ∃ b, b = hang X c c := ⟨_, rfl⟩
      rw [← eb] at x2 x3 hb
      have l1 : lam s b < M := by have := hmin b hb; omega
      have l2 : lam c b < M := by
        have := h.ultra (s := s) (t := b) (u := c) hs (by omega) hcn (by omega)
        omega
      have xs : X c s = true := by
        cases e : X c s with
        | true => rfl
        | false => have := h.ge2 (X := X c) hs hcn (by rw [e, x1]; decide); omega
      rw [hang, if_pos ⟨by omega, hcs, xs, (same c (Nat.le_refl _)).1⟩]
  -- and stays near
  have stay : ∀ d, c + 1 + d ≤ s → M ≤ lam s (hang X (c + 1 + d) s) := by
    intro d
    induction d with
    | zero => intro _; rw [show c + 1 + 0 = c + 1 from rfl, base]; exact hcM
    | succ d ih =>
      intro hd
      have i1 := ih (by omega)
      rw [show c + 1 + (d + 1) = (c + 1 + d) + 1 by omega, hang]
      by_cases q : 0 < c + 1 + d ∧ c + 1 + d < s ∧ X (c + 1 + d) s = true ∧ hang X (c + 1 + d) s = hang X (c + 1 + d) (c + 1 + d)
      · rw [if_pos q]
        obtain ⟨q1, q2, q3, q4⟩ := q
        obtain ⟨a, ea⟩ : ∃ a, a = c + 1 + d := ⟨_, rfl⟩
        rw [← ea] at q1 q2 q3 q4 i1 ⊢
        obtain ⟨x1, x2, x3⟩ := hX a q1 (by omega)
        have hu := hang_lt X a a q1
        rw [← q4] at x2 x3 hu
        have g := h.ge (X a) s _ hs (by omega) q3 x2
        have u1 := h.ultra (s := s) (t := a) (u := hang X a s) hs (by omega) (by omega) (by omega)
        rw [h.sym (hang X a s) a (by omega) (by omega)] at u1
        omega
      · rw [if_neg q]; exact i1
  have := stay (s - (c + 1)) (by omega)
  rw [show c + 1 + (s - (c + 1)) = s by omega] at this
  omega
/-- So what parts s from any one ahead is told by what it hangs on. -/
theorem gus_step (h : Cuts n A lam) {X : Nat → Nat → Bool} (hX : ∀ a, 0 < a → a < n → X a a = true ∧ X a (hang X a a) = false ∧ A (X a) = lam a (hang X a a)) {s j : Nat} (hs : s < n) (h0 : 0 < s) (hj : j < s) (hne : hang X s s ≠ j) :
    lam s j = min (lam s (hang X s s)) (lam (hang X s s) j) := by
  have hu := hang_lt X s s h0
  have a := gusfield h hX hs h0 hj
  obtain ⟨t, et⟩ : ∃ t, t = hang X s s := ⟨_, rfl⟩
  rw [← et] at hu hne a ⊢
  have b := h.ultra (s := s) (t := j) (u := t) hs (by omega) (by omega) (by omega)
  have c := h.ultra (s := t) (t := j) (u := s) (by omega) (by omega) hs hne
  rw [h.sym t s (by omega) hs] at c
  omega
end
end Go.Proofs.Ytdpkdicciclobaa
