/- An order in which each next one hangs most on those ahead: what parts the last two (Stoer, Wagner). No program. -/
import Derived.Test.YtdpkdicciclobaaPlB
namespace Go.Proofs.Ytdpkdicciclobaa
open Go Go.Proofs.Ytdpkdicciclobaa.Sx
set_option linter.unusedVariables false
set_option linter.unusedSimpArgs false
section
variable {v : Nat → Nat} {W : Nat → Nat → Int} {N : Nat → Prop} {m : Nat}
/-- so much of x hangs on those ahead that are on its side, or on the other one -/
def sameY (v : Nat → Nat) (W : Nat → Nat → Int) (Y : Nat → Bool) (p x : Nat) : Int := tot (fun a => if Y (v a) = Y x then W (v a) x else 0) p
def otherY (v : Nat → Nat) (W : Nat → Nat → Int) (Y : Nat → Bool) (p x : Nat) : Int := tot (fun a => if Y (v a) = Y x then 0 else W (v a) x) p
def crossY (v : Nat → Nat) (W : Nat → Nat → Int) (Y : Nat → Bool) (p : Nat) : Int := tot (fun b => otherY v W Y b (v b)) p
theorem both_sides (Y : Nat → Bool) (p x : Nat) : tot (fun a => W (v a) x) p = sameY v W Y p x + otherY v W Y p x := by
  unfold sameY otherY
  rw [← tot_add]
  refine tot_congr fun a _ => ?_
  split <;> omega
theorem order_side (hW : ∀ i j, 0 ≤ W i j) (hN : ∀ a, a < m → N (v a)) (hi : ∀ a b, a < m → b < m → v a = v b → a = b)
    (hMA : ∀ q, q < m → ∀ x, N x → (∀ a, a < q → v a ≠ x) → tot (fun a => W (v a) x) q ≤ tot (fun a => W (v a) (v q)) q) (Y : Nat → Bool) : ∀ p, p < m → ∀ x, N x → (∀ a, a < p + 1 → v a ≠ x) → Y x ≠ Y (v p) → sameY v W Y (p + 1) x ≤ crossY v W Y (p + 1) := by
  have o0 : ∀ p x, 0 ≤ otherY v W Y p x := fun p x => tot_nonneg fun a _ => by split; exact Int.le_refl _; exact hW _ _
  intro p
  induction p with
  | zero =>
    intro hp x hx hd hy
    have e1 : sameY v W Y (0 + 1) x = 0 := by
      unfold sameY; rw [tot, tot, if_neg (fun z => hy z.symm)]; rfl
    rw [e1]
    exact tot_nonneg fun b _ => o0 b _
  | succ p ih =>
    intro hp x hx hd hy
    have e1 : sameY v W Y (p + 1 + 1) x = sameY v W Y (p + 1) x := by
      show tot (fun a => if Y (v a) = Y x then W (v a) x else 0) (p + 1) + (if Y (v (p + 1)) = Y x then W (v (p + 1)) x else 0) = _
      rw [if_neg (fun z => hy z.symm), Int.add_zero]; rfl
    have e2 : crossY v W Y (p + 1 + 1) = crossY v W Y (p + 1) + otherY v W Y (p + 1) (v (p + 1)) := rfl
    have ov := o0 (p + 1) (v (p + 1))
    have ox := o0 (p + 1) x
    rw [e1, e2]
    by_cases c : Y x = Y (v p)
    · have h1 := ih (by omega) (v (p + 1)) (hN _ hp) (fun a ha z => by have := hi a (p + 1) (by omega) hp z; omega) (fun z => hy (c.trans z.symm))
      have h2 := hMA (p + 1) hp x hx (fun a ha => hd a (by omega))
      rw [both_sides Y, both_sides Y] at h2
      omega
    · have := ih (by omega) x hx (fun a ha => hd a (by omega)) c
      omega
/-- What hangs on all is no more than any cut takes that parts the last two. -/
theorem order_min (hW : ∀ i j, 0 ≤ W i j) (hN : ∀ a, a < m → N (v a)) (hi : ∀ a b, a < m → b < m → v a = v b → a = b)
    (hMA : ∀ q, q < m → ∀ x, N x → (∀ a, a < q → v a ≠ x) → tot (fun a => W (v a) x) q ≤ tot (fun a => W (v a) (v q)) q) (Y : Nat → Bool) (hm : 2 ≤ m) (hY : Y (v (m - 1)) ≠ Y (v (m - 2))) : tot (fun a => W (v a) (v (m - 1))) (m - 1) ≤ crossY v W Y m := by
  obtain ⟨p, rfl⟩ : ∃ p, m = p + 2 := ⟨m - 2, by omega⟩
  have h := order_side hW hN hi hMA Y p (by omega) (v (p + 1)) (hN _ (by omega)) (fun a ha z => by have := hi a (p + 1) (by omega) (by omega) z; omega) hY
  have e : crossY v W Y (p + 2) = crossY v W Y (p + 1) + otherY v W Y (p + 1) (v (p + 1)) := rfl
  show tot (fun a => W (v a) (v (p + 1))) (p + 1) ≤ _
  rw [both_sides Y, e]
  omega
end
end Go.Proofs.Ytdpkdicciclobaa
