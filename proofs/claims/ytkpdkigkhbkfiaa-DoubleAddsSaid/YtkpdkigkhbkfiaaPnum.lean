/- weirref.Numbers: is each number there, once. -/
import Derived.Test.YtkpdkigkhbkfiaaPsortI
import Derived.Test.YtkpdkigkhbkfiaaPdual
import Derived.Test.YtkpdkigkhbkfiaaGref
namespace Go.Proofs.Ytkpdkigkhbkfiaa
open Go Go.Proofs.Ytkpdkigkhbkfiaa.Sx
set_option linter.unusedVariables false
set_option linter.unusedSimpArgs false
theorem swapL_back {m : List Int} {i j : Nat} (hi : i < m.length) (hj : j < m.length) : swapL (swapL m i j) i j = m := by
  refine eq_of_getD (d := 0) (by rw [swapL_len, swapL_len]) fun p _ => ?_
  rw [swapL_getD (by rw [swapL_len]; exact hi) (by rw [swapL_len]; exact hj), swapL_getD hi hj]
  congr 1
  unfold swapJ
  repeat' split
  all_goals omega
theorem Sw.symm {a b : Nat} {l m : List Int} (h : Sw a b l m) (hb : b ≤ l.length) : Sw a b m l := by
  induction h with
  | refl => exact .refl _
  | step h0 hi hj ih =>
    rename_i m i j
    have hl := h0.len
    have h1 : Sw a b (swapL m i j) m := by
      have := (Sw.refl (a := a) (b := b) (swapL m i j)).step hi hj
      rwa [swapL_back (by omega) (by omega)] at this
    exact h1.trans ih
theorem Sw.mem2 {a b : Nat} {l m : List Int} (h : Sw a b l m) (hb : b ≤ l.length) {x : Int} (hx : x ∈ l) : x ∈ m :=
  (h.symm hb).mem (by rw [h.len]; exact hb) hx
theorem numbers_cases {l : List Int} (hl : l.length ≤ 17592186044416) (n : Int) : ∃ b, weirref_Numbers_F l n = some b ∧
    (b = true → (l.length : Int) = n ∧ InjN l.length (fun i => (l.getD i 0).toNat) ∧ ∀ i, i < l.length → 0 ≤ l.getD i 0 ∧ l.getD i 0 < l.length) := by
  have ec : slices_Clone_int_F l = some l := by
    unfold slices_Clone_int_F
    rw [ck_some (by omega), List.nil_append]
  obtain ⟨M, eM, sM, aM⟩ := sortI_all lessI (l := l) (by omega) (fun _ _ => trivial)
  have lM := sM.len
  unfold weirref_Numbers_F
  rw [ec, bind_some', eM, bind_some', ck_some lM]
  obtain ⟨q, e, hq⟩ := forC_or (f := weirref_Numbers_B1 M) (fun k _ => ∀ i : Nat, i < k → M.getD i 0 = (i : Int)) (fun q => match q with | .go _ => ∀ i : Nat, i < l.length → M.getD i 0 = (i : Int) | .ret r => r = false) (n := l.length) (k := 0) (s := ()) (fun i hi => absurd hi (by omega)) (fun k _ _ hk i1 => by
    unfold weirref_Numbers_B1
    by_cases c : M.getD k 0 ≠ ((k : Nat) : Int)
    · rw [if_pos c]; exact .inr (.inr ⟨_, rfl, rfl⟩)
    · rw [if_neg c]
      refine .inl ⟨_, rfl, fun i hi => ?_⟩
      by_cases z : i = k
      · rw [z]; exact Classical.byContradiction c
      · exact i1 i (by omega)) (fun _ h => by rw [Nat.zero_add] at h; exact h)
  rw [e, bind_some']
  match q, hq with
  | .ret r, h => exact ⟨r, rfl, fun w => by rw [h] at w; cases w⟩
  | .go _, h =>
    refine ⟨_, rfl, fun w => ?_⟩
    have inj : InjL l := InjL.sw (l := M) (fun p q hp hq e => by
      rw [h p (by omega), h q (by omega)] at e; omega) (sM.symm (Nat.le_refl _)) (by omega)
    have rng : ∀ i, i < l.length → 0 ≤ l.getD i 0 ∧ l.getD i 0 < l.length := fun i hi => by
      obtain ⟨k, hk, ek⟩ := getD_of_mem (d := 0) (sM.mem2 (Nat.le_refl _) (mem_getD (d := 0) hi))
      rw [h k (by omega)] at ek
      omega
    exact ⟨of_decide_eq_true w, ⟨fun i hi => by have := rng i hi; omega, fun i j hi hj e => inj i j hi hj (by
      have := rng i hi; have := rng j hj; omega)⟩, rng⟩
end Go.Proofs.Ytkpdkigkhbkfiaa
