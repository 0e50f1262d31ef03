/- slices.Compact: how long what is left is; how many values a list in order has. -/
import Derived.Test.YtkpdkigkhbkfiaaPsortI
import Derived.Test.YtkpdkigkhbkfiaaPlB
namespace Go.Proofs.Ytkpdkigkhbkfiaa
open Go Go.Proofs.Ytkpdkigkhbkfiaa.Sx
set_option linter.unusedVariables false
set_option linter.unusedSimpArgs false
/-- another one than the one ahead of it -/
def newS (s : List Int) (i : Nat) : Bool := decide (i = 0 ∨ s.getD i 0 ≠ s.getD (i - 1) 0)
theorem cnt_all {S : Nat → Bool} : ∀ {n : Nat}, (∀ x, x < n → S x = true) → cnt S n = n
  | 0, _ => rfl
  | n + 1, h => by rw [cnt, cnt_all fun x hx => h x (by omega), h n (by omega)]; simp
theorem compact_len {s : List Int} (hs : s.length ≤ 1000) : ∃ t, slices_Compact_int_F s = some t ∧ t.length = cnt (newS s) s.length := by
  unfold slices_Compact_int_F
  by_cases c : ((s.length : Nat) : Int) < 2
  · rw [if_pos c]
    refine ⟨s, rfl, (cnt_all fun x hx => ?_).symm⟩
    exact decide_eq_true (.inl (by omega))
  rw [if_neg c]
  obtain ⟨q, e, hq⟩ := loopC_or (f := slices_Compact_int_B1 s) (fun k => 1 ≤ k ∧ k ≤ s.length ∧ ∀ x, x < k → newS s x = true) (fun q => match q with | .go _ => cnt (newS s) s.length = s.length | .ret t => t.length = cnt (newS s) s.length) (fun k => s.length - k) (fun k ⟨i1, i2, i3⟩ => by
    unfold slices_Compact_int_B1
    by_cases d : ((k : Nat) : Int) < ((s.length : Nat) : Int)
    · have ek : (((k : Nat) : Int) - 1).toNat = k - 1 := by omega
      rw [if_pos d, ck_some (by omega), ck_some (inI_small (by omega) (by omega)), ck_some (by omega), ek]
      by_cases z : s.getD k 0 = s.getD (k - 1) 0
      · rw [if_pos z, ck_some (by omega)]
        have hk0 : newS s k = false := decide_eq_false (by omega)
        obtain ⟨q2, e2, ⟨m, n, k2⟩, rfl, h1, h2, h3⟩ := loopC_or (f := slices_Compact_int_B2 s k) (fun σ => σ.1.length = s.length ∧ (∀ i, σ.2.1 ≤ i → σ.1.getD i 0 = s.getD i 0) ∧ 1 ≤ σ.2.2 ∧ k + σ.2.2 ≤ s.length ∧ σ.2.1 + 1 ≤ k + σ.2.2 ∧ σ.2.1 = cnt (newS s) (k + σ.2.2))
          (fun q => ∃ σ, q = .go σ ∧ σ.1.length = s.length ∧ σ.2.1 ≤ s.length ∧ σ.2.1 = cnt (newS s) s.length) (fun σ => s.length - σ.2.2) (fun σ ⟨j1, j2, j3, j4, j5, j6⟩ => by
          obtain ⟨m, n, k2⟩ := σ
          dsimp only at j1 j2 j3 j4 j5 j6
          unfold slices_Compact_int_B2
          dsimp only
          by_cases d2 : ((k2 : Nat) : Int) < (((s.length - k) : Nat) : Int)
          · have e1 : m.getD (k2 + (k + 0)) 0 = s.getD (k + k2) 0 := by rw [j2 _ (by omega)]; congr 1; omega
            have e3 : m.getD ((((k2 : Nat) : Int) - 1).toNat + (k + 0)) 0 = s.getD (k + k2 - 1) 0 := by rw [j2 _ (by omega)]; congr 1; omega
            rw [if_pos d2, ck_some (by omega), ck_some (by omega), ck_some (inI_small (by omega) (by omega)), ck_some (by omega), ck_some (by omega), e1, e3]
            by_cases w : s.getD (k + k2) 0 ≠ s.getD (k + k2 - 1) 0
            · rw [if_pos w, ck_some (by omega), ck_some (inI_small (by omega) (by omega)), ck_some (inI_small (by omega) (by omega))]
              have hn : newS s (k + k2) = true := decide_eq_true (.inr w)
              refine .inl ⟨_, rfl, ⟨by dsimp only; rw [List.length_set, j1], fun i hi => ?_, by dsimp only; omega, by dsimp only; omega, by dsimp only; omega, ?_⟩, by dsimp only; omega⟩
              · dsimp only at hi ⊢
                rw [getD_set', if_neg (by omega)]; exact j2 i (by omega)
              · dsimp only
                rw [show k + (k2 + 1) = k + k2 + 1 by omega, cnt, ← j6, hn]; rfl
            · rw [if_neg w, ck_some (inI_small (by omega) (by omega))]
              have hn : newS s (k + k2) = false := decide_eq_false (by omega)
              refine .inl ⟨_, rfl, ⟨j1, j2, by dsimp only; omega, by dsimp only; omega, by dsimp only; omega, ?_⟩, by dsimp only; omega⟩
              dsimp only
              rw [show k + (k2 + 1) = k + k2 + 1 by omega, cnt, ← j6, hn]; rfl
          · rw [if_neg d2]
            refine .inr (.inl ⟨_, rfl, _, rfl, j1, by dsimp only; omega, ?_⟩)
            dsimp only
            rw [j6, show k + k2 = s.length by omega]) (n := 1000000) (s := (s, k, 1)) ⟨rfl, fun _ _ => rfl, Nat.le_refl _, by dsimp only; omega, Nat.le_refl _, by
            dsimp only
            rw [cnt, hk0, cnt_all i3]; rfl⟩ (by dsimp only; omega)
        dsimp only at h1 h2 h3
        rw [e2, bind_some']
        dsimp only
        rw [ck_some (by omega)]
        refine .inr (.inr ⟨_, rfl, ?_⟩)
        rw [subl_length, subl_length]
        omega
      · rw [if_neg z, ck_some (inI_small (by omega) (by omega))]
        refine .inl ⟨_, rfl, ⟨by omega, by omega, fun x hx => ?_⟩, by omega⟩
        by_cases w : x = k
        · rw [w]; exact decide_eq_true (.inr z)
        · exact i3 x (by omega)
    · rw [if_neg d]
      refine .inr (.inl ⟨_, rfl, cnt_all fun x hx => i3 x (by omega)⟩)) (n := 1000000) (s := 1) ⟨Nat.le_refl _, by omega, fun x hx => decide_eq_true (.inl (by omega))⟩ (by omega)
  rw [e, bind_some']
  match q, hq with
  | .go _, h => exact ⟨s, rfl, h.symm⟩
  | .ret t, h => exact ⟨t, rfl, h⟩
/-- is it one of the values -/
def hasS (s : List Int) (v : Nat) : Bool := decide ((v : Int) ∈ s)
theorem cnt_upto {S T : Nat → Bool} {u : Nat} : ∀ {n : Nat}, u < n → S u = true → T u = false → (∀ x, x < n → x ≠ u → T x = S x) → cnt T n + 1 = cnt S n
  | 0, h, _, _, _ => absurd h (by omega)
  | n + 1, h, h1, h2, h3 => by
    rw [cnt, cnt]
    by_cases c : u = n
    · subst c
      have : cnt T u = cnt S u := Nat.le_antisymm (cnt_mono fun x hx e => by rw [← h3 x (by omega) (by omega)]; exact e) (cnt_mono fun x hx e => by rw [h3 x (by omega) (by omega)]; exact e)
      rw [h1, h2, this]; simp
    · have := cnt_upto (n := n) (by omega) h1 h2 fun x hx hne => h3 x (by omega) hne
      rw [h3 n (by omega) (fun w => c w.symm)]
      omega
/-- A list in order has as many values as there are entries unlike the one ahead. -/
theorem new_values {s : List Int} {n : Nat} (hs : AscK id 0 s.length s) (hv : ∀ x, x ∈ s → 0 ≤ x ∧ x < n) : cnt (newS s) s.length = cnt (hasS s) n := by
  have key : ∀ m, m ≤ s.length → cnt (newS s) m = cnt (hasS (s.take m)) n := fun m => by
    induction m with
    | zero =>
      intro _
      have : ∀ k, cnt (hasS (s.take 0)) k = 0 := fun k => by
        induction k with
        | zero => rfl
        | succ k ih => rw [cnt, ih]; simp [hasS]
      rw [this]; rfl
    | succ m ih =>
      intro hm
      have et : s.take (m + 1) = s.take m ++ [s.getD m 0] := by
        rw [List.take_add_one]; simp [show m < s.length by omega]
      have hvm := hv _ (mem_getD (d := 0) (show m < s.length by omega))
      have mem : ∀ v : Nat, hasS (s.take (m + 1)) v = true ↔ hasS (s.take m) v = true ∨ (v : Int) = s.getD m 0 := fun v => by
        unfold hasS
        rw [et, decide_eq_true_iff, decide_eq_true_iff, List.mem_append, List.mem_singleton]
      rw [cnt, ih (by omega)]
      by_cases c : newS s m = true
      · have hnew : s.getD m 0 ∉ s.take m := fun w => by
          obtain ⟨i, hi, ei⟩ := getD_of_mem (d := 0) w
          rw [List.length_take] at hi
          have e2 : (s.take m).getD i 0 = s.getD i 0 := by
            rw [List.getD_eq_getElem?_getD, List.getElem?_take, if_pos (by omega), ← List.getD_eq_getElem?_getD]
          rw [e2] at ei
          have c' := of_decide_eq_true c
          have h1 : s.getD (m - 1) 0 ≤ s.getD m 0 := by
            by_cases z : m = 0
            · omega
            · exact hs (m - 1) m (Nat.zero_le _) (by omega) (by omega)
          have h2 : s.getD i 0 ≤ s.getD (m - 1) 0 := by
            by_cases z : i = m - 1
            · rw [z]; exact Int.le_refl _
            · exact hs i (m - 1) (Nat.zero_le _) (by omega) (by omega)
          omega
        rw [c]
        have := cnt_upto (S := hasS (s.take (m + 1))) (T := hasS (s.take m)) (u := (s.getD m 0).toNat) (n := n) (by omega) ((mem _).2 (.inr (by omega))) (decide_eq_false (by rw [show (((s.getD m 0).toNat : Nat) : Int) = s.getD m 0 by omega]; exact hnew)) (fun x _ hx => by
          have := mem x
          cases e1 : hasS (s.take m) x <;> cases e2 : hasS (s.take (m + 1)) x
          · rfl
          · rw [e1, e2] at this
            rcases this.1 rfl with w | w
            · cases w
            · omega
          · rw [e1, e2] at this
            exact absurd (this.2 (.inl rfl)) (by decide)
          · rfl)
        rw [← this]; rfl
      · have c2 : newS s m = false := by
          cases h : newS s m with
          | false => rfl
          | true => exact absurd h c
        have c' := of_decide_eq_false c2
        have hm0 : m ≠ 0 := fun w => c' (.inl w)
        have he : s.getD m 0 = s.getD (m - 1) 0 := Classical.byContradiction fun w => c' (.inr w)
        have hin : s.getD m 0 ∈ s.take m := by
          rw [he]
          have : (s.take m).getD (m - 1) 0 = s.getD (m - 1) 0 := by
            rw [List.getD_eq_getElem?_getD, List.getElem?_take, if_pos (by omega), ← List.getD_eq_getElem?_getD]
          rw [← this]
          exact mem_getD (by rw [List.length_take]; omega)
        rw [c2]
        have e3 : cnt (hasS (s.take m)) n = cnt (hasS (s.take (m + 1))) n := Nat.le_antisymm (cnt_mono fun x hx e => (mem x).2 (.inl e)) (cnt_mono fun x hx e => by
          rcases (mem x).1 e with w | w
          · exact w
          · exact decide_eq_true (by rw [w]; exact hin))
        rw [e3]; rfl
  have := key s.length (Nat.le_refl _)
  rwa [List.take_length] at this
end Go.Proofs.Ytkpdkigkhbkfiaa
