/- How many pairs there are at the most in a set: taking one node away. -/
import Derived.Test.YtdpkdicciclobaaPset
namespace Go.Proofs.Ytdpkdicciclobaa
open Go Go.Proofs.Ytdpkdicciclobaa.Sx
set_option linter.unusedVariables false
set_option linter.unusedSimpArgs false
theorem dropComm_table : ∀ set : Fin 512, ∀ k j : Fin 9, dropS (dropS set.val k.val) j.val = dropS (dropS set.val j.val) k.val := by decide +kernel
theorem dropComm {set k j : Nat} (hs : set < 512) (hk : k < 9) (hj : j < 9) : dropS (dropS set k) j = dropS (dropS set j) k := dropComm_table ⟨set, hs⟩ ⟨k, hk⟩ ⟨j, hj⟩
/-- so many pairs, of nodes of the set alone, no node twice -/
inductive MatS (E : Nat → Nat → Prop) : Nat → Nat → Prop where
  | nil (S : Nat) : MatS E S 0
  | step {S u v k : Nat} : u < 9 → v < 9 → inS S u = true → inS S v = true → u ≠ v → E u v → MatS E (dropS (dropS S u) v) k → MatS E S (k + 1)
theorem drop_lt {S k : Nat} (h : S < 512) : dropS S k < 512 := by have := dropS_le S k; omega
/-- of a node: it is in no pair, or it is in one -/
theorem MatS.split {E : Nat → Nat → Prop} (hE : ∀ u v, E u v → E v u) {S k : Nat} (h : MatS E S k) : ∀ {x : Nat}, S < 512 → x < 9 → inS S x = true →
    MatS E (dropS S x) k ∨ ∃ v k', k = k' + 1 ∧ v < 9 ∧ inS S v = true ∧ v ≠ x ∧ E x v ∧ MatS E (dropS (dropS S x) v) k' := by
  induction h with
  | nil S => exact fun _ _ _ => .inl (.nil _)
  | @step S u v k hu hv h1 h2 hne he hm ih =>
    intro x hS hx hin
    by_cases e1 : x = u
    · subst e1
      exact .inr ⟨v, k, rfl, hv, h2, fun e => hne e.symm, he, hm⟩
    by_cases e2 : x = v
    · subst e2
      refine .inr ⟨u, k, rfl, hu, h1, hne, hE _ _ he, ?_⟩
      rw [dropComm hS hx hu]; exact hm
    have d1 := drop_lt (k := u) hS
    have d2 := drop_lt (k := v) d1
    have hxx : inS (dropS (dropS S u) v) x = true := by
      rw [inDrop d1 hv hx, inDrop hS hu hx, hin]; simp [e1, e2]
    -- the set without x, then without u and v
    have c1 : dropS (dropS (dropS S u) v) x = dropS (dropS (dropS S x) u) v := by
      rw [dropComm d1 hv hx, dropComm hS hu hx]
    have dx := drop_lt (k := x) hS
    have iu : inS (dropS S x) u = true := by rw [inDrop hS hx hu, h1]; simp; exact fun e => e1 e.symm
    have iv : inS (dropS S x) v = true := by rw [inDrop hS hx hv, h2]; simp; exact fun e => e2 e.symm
    rcases ih d2 hx hxx with hl | ⟨w, k', rfl, hw, hwin, hwx, hew, hm'⟩
    · rw [c1] at hl
      exact .inl (.step hu hv iu iv hne he hl)
    · rw [inDrop d1 hv hw, inDrop hS hu hw] at hwin
      simp only [Bool.and_eq_true, decide_eq_true_eq] at hwin
      obtain ⟨⟨hw1, hw2⟩, hw3⟩ := hwin
      refine .inr ⟨w, k' + 1, rfl, hw, hw1, hwx, hew, ?_⟩
      have dxw := drop_lt (k := w) dx
      have dxu := drop_lt (k := u) dx
      have ju : inS (dropS (dropS S x) w) u = true := by rw [inDrop dx hw hu, iu]; simp; exact fun e => hw2 e.symm
      have jv : inS (dropS (dropS S x) w) v = true := by rw [inDrop dx hw hv, iv]; simp; exact fun e => hw3 e.symm
      have c2 : dropS (dropS (dropS (dropS S u) v) x) w = dropS (dropS (dropS (dropS S x) w) u) v := by
        rw [c1, dropComm dxu hv hw, dropComm dx hu hw]
      rw [c2] at hm'
      exact .step hu hv ju jv hne he hm'
/-- and back -/
theorem MatS.keep {E : Nat → Nat → Prop} {S k : Nat} (h : MatS E S k) : ∀ {T : Nat}, S < 512 → T < 512 → (∀ x, x < 9 → inS S x = true → inS T x = true) → MatS E T k := by
  induction h with
  | nil S => exact fun _ _ _ => .nil _
  | @step S u v k hu hv h1 h2 hne he hm ih =>
    intro T hS hT hsub
    have d1 := drop_lt (k := u) hS
    have t1 := drop_lt (k := u) hT
    refine .step hu hv (hsub u hu h1) (hsub v hv h2) hne he (ih (drop_lt d1) (drop_lt t1) fun x hx hin => ?_)
    rw [inDrop d1 hv hx, inDrop hS hu hx] at hin
    rw [inDrop t1 hv hx, inDrop hT hu hx]
    simp only [Bool.and_eq_true, decide_eq_true_eq] at hin ⊢
    exact ⟨⟨hsub x hx hin.1.1, hin.1.2⟩, hin.2⟩
end Go.Proofs.Ytdpkdicciclobaa
