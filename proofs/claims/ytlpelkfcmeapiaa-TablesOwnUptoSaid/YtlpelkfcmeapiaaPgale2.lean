/- Package gale: the columns stand in the order of what they still want. -/
import Derived.Test.YtlpelkfcmeapiaaPgale
namespace Go.Proofs.Ytlpelkfcmeapiaa
open Go Go.Proofs.Ytlpelkfcmeapiaa.Sx
set_option linter.unusedVariables false
set_option linter.unusedSimpArgs false
theorem cmp_eq (a b : Int) : cmp_Compare_int_F a b = some (if a < b then -1 else if b < a then 1 else 0) := by
  unfold cmp_Compare_int_F cmp_isNaN_int_F
  simp only [bind_some', ne_eq, not_true_eq_false, decide_false, Bool.false_eq_true, if_false]
  repeat' split
  all_goals first | rfl | omega
theorem or_eq (x y : Int) : cmp_Or_int_F [x, y] = some (if x ≠ 0 then x else y) := by
  unfold cmp_Or_int_F
  have e : forC (cmp_Or_int_B1 [x, y]) [x, y].length 0 () = some (if x ≠ 0 then .ret x else if y ≠ 0 then .ret y else .go ()) := by
    show forC (cmp_Or_int_B1 [x, y]) 2 0 () = _
    by_cases c : x = 0 <;> by_cases d : y = 0 <;> simp [forC, cmp_Or_int_B1, c, d]
  rw [e, bind_some']
  by_cases c : x ≠ 0
  · rw [if_pos c, if_pos c]
  · rw [if_neg c, if_neg c]
    by_cases d : y ≠ 0
    · rw [if_pos d]
    · rw [if_neg d]
      have : y = 0 := Classical.byContradiction d
      rw [this]
/-- what the column at place p still wants -/
def keyG (left l : List Int) (p : Nat) : Int := left.getD (l.getD p 0).toNat 0
theorem less_key {n : Nat} {l left : List Int} (h : Ord n l) (hl : left.length = n) {i j : Nat} (hi : i < n) (hj : j < n) : ∃ r, gale_Make_c1_F (l.getD i 0) (l.getD j 0) left = some r ∧ (r < 0 → keyG left l j ≤ keyG left l i) ∧ (¬ r < 0 → keyG left l i ≤ keyG left l j) := by
  have a := h.rg i hi
  have b := h.rg j hj
  unfold gale_Make_c1_F keyG
  rw [ck_some (by omega), ck_some (by omega), cmp_eq, bind_some', cmp_eq, bind_some', or_eq, bind_some']
  refine ⟨_, rfl, fun hr => ?_, fun hr => ?_⟩
  · repeat' split at hr
    all_goals omega
  · repeat' split at hr
    all_goals omega
theorem key_swap {n : Nat} {l left : List Int} (hl : l.length = n) {i j : Nat} (hi : i < n) (hj : j < n) (p : Nat) : keyG left ((l.set i (l.getD j 0)).set j (l.getD i 0)) p = keyG left l (swapI i j p) := by
  unfold keyG
  rw [swap_getD hl hi hj]
/-- in order up to x, but for the one at y, which stands ahead of what comes behind it -/
structure InsS (left : List Int) (x y : Nat) (l : List Int) : Prop where
  a : ∀ p q, p < q → q ≤ x → p ≠ y → q ≠ y → keyG left l q ≤ keyG left l p
  b : ∀ q, y < q → q ≤ x → keyG left l q ≤ keyG left l y
theorem InsS.step {left : List Int} {n x y : Nat} {l : List Int} (hl : l.length = n) (h : InsS left x y l) (h0 : 0 < y) (hy : y < n) (hyx : y ≤ x) (hk : keyG left l (y - 1) ≤ keyG left l y) : InsS left x (y - 1) ((l.set y (l.getD (y - 1) 0)).set (y - 1) (l.getD y 0)) := by
  have ks := key_swap (left := left) hl (i := y) (j := y - 1) hy (by omega)
  refine ⟨fun p q hpq hq hp1 hq1 => ?_, fun q hq1 hq2 => ?_⟩
  · rw [ks, ks]
    unfold swapI
    rw [if_neg hq1, if_neg hp1]
    by_cases z1 : q = y
    · rw [if_pos z1, if_neg (by omega)]
      exact h.a p (y - 1) (by omega) (by omega) (by omega) (by omega)
    · rw [if_neg z1]
      by_cases z2 : p = y
      · rw [if_pos z2]
        exact h.a (y - 1) q (by omega) hq (by omega) z1
      · rw [if_neg z2]
        exact h.a p q hpq hq z2 z1
  · rw [ks, ks]
    unfold swapI
    rw [if_neg (show ¬ q = y - 1 by omega), if_pos rfl]
    by_cases z : q = y
    · rw [if_pos z]; exact hk
    · rw [if_neg z]; exact h.b q (by omega) hq2
theorem InsS.done {left : List Int} {x y : Nat} {l : List Int} (h : InsS left x y l) (hk : y = 0 ∨ keyG left l y ≤ keyG left l (y - 1)) : ∀ p q, p < q → q ≤ x → keyG left l q ≤ keyG left l p := fun p q hpq hq => by
  by_cases z1 : q = y
  · subst z1
    rcases hk with hk | hk
    · omega
    · by_cases z2 : p = q - 1
      · rw [z2]; exact hk
      · have := h.a p (q - 1) (by omega) (by omega) (by omega) (by omega)
        omega
  · by_cases z2 : p = y
    · subst z2; exact h.b q hpq hq
    · exact h.a p q hpq hq z2 z1
theorem ins_loop2 {n : Nat} (hn : n ≤ 12) {l left : List Int} (h : Ord n l) (hl : left.length = n) {x : Nat} (h1 : x < n) (hs : ∀ p q, p < q → q < x → keyG left l q ≤ keyG left l p) :
    ∃ l' x', loopC (slices_insertionSortCmpFunc_int_gale_Make_c1_B2 0 left) 1000000 (l, (x : Int)) = some (.go (l', x')) ∧ Ord n l' ∧ ∀ p q, p < q → q ≤ x → keyG left l' q ≤ keyG left l' p := by
  obtain ⟨q, e, ⟨l', x'⟩, rfl, hq⟩ := loopC_or (f := slices_insertionSortCmpFunc_int_gale_Make_c1_B2 0 left) (fun σ => Ord n σ.1 ∧ 0 ≤ σ.2 ∧ σ.2 ≤ x ∧ InsS left x σ.2.toNat σ.1) (fun q => ∃ σ, q = .go σ ∧ Ord n σ.1 ∧ ∀ p q, p < q → q ≤ x → keyG left σ.1 q ≤ keyG left σ.1 p) (fun σ => σ.2.toNat) (fun σ ⟨i1, i2, i3, i4⟩ => by
    obtain ⟨l, y⟩ := σ
    dsimp only at i1 i2 i3 i4
    have hlen := i1.len
    obtain ⟨y, rfl⟩ := Int.eq_ofNat_of_zero_le i2
    rw [Int.toNat_natCast] at i4
    unfold slices_insertionSortCmpFunc_int_gale_Make_c1_B2
    dsimp only
    by_cases c : 0 < (y : Int)
    · have ey : ((y : Int) - 1).toNat = y - 1 := by omega
      obtain ⟨r, er, r1, r2⟩ := less_key i1 hl (i := y) (j := y - 1) (by omega) (by omega)
      rw [if_pos c, ck_some (by omega), ck_some (inI_small (by omega) (by omega)), ck_some (by omega), ey, Int.toNat_natCast, er, bind_some']
      by_cases c2 : r < 0
      · rw [if_pos c2]
        exact .inl ⟨_, rfl, ⟨i1.swap (by omega) (by omega), by show 0 ≤ (y : Int) - 1; omega, by show (y : Int) - 1 ≤ _; omega, by
          show InsS left x ((y : Int) - 1).toNat _
          rw [ey]
          exact i4.step hlen (by omega) (by omega) (by omega) (r1 c2)⟩, by show ((y : Int) - 1).toNat < ((y : Nat) : Int).toNat; omega⟩
      · rw [if_neg c2]
        exact .inr (.inl ⟨_, rfl, _, rfl, i1, i4.done (.inr (r2 c2))⟩)
    · rw [if_neg c]
      exact .inr (.inl ⟨_, rfl, _, rfl, i1, i4.done (.inl (by omega))⟩)) (n := 1000000) (s := (l, (x : Int))) ⟨h, by show (0 : Int) ≤ x; omega, by show (x : Int) ≤ x; omega, by
      show InsS left x ((x : Int)).toNat l
      rw [Int.toNat_natCast]
      exact ⟨fun p q hpq hq hp1 hq1 => hs p q hpq (by omega), fun q h1 h2 => by omega⟩⟩ (by show ((x : Nat) : Int).toNat < _; omega)
  exact ⟨l', x', e, hq⟩
theorem ins_ok2 {n : Nat} (hn : n ≤ 12) {l left : List Int} (h : Ord n l) (hl : left.length = n) : ∃ l', slices_insertionSortCmpFunc_int_gale_Make_c1_F l 0 (n : Int) left = some l' ∧ Ord n l' ∧ ∀ p q, p < q → q < n → keyG left l' q ≤ keyG left l' p := by
  obtain ⟨q, e, ⟨l', x'⟩, rfl, hq⟩ := loopC_or (f := slices_insertionSortCmpFunc_int_gale_Make_c1_B1 0 (n : Int) left) (fun σ => Ord n σ.1 ∧ 1 ≤ σ.2 ∧ ∀ p q : Nat, p < q → (q : Int) < σ.2 → q < n → keyG left σ.1 q ≤ keyG left σ.1 p) (fun q => ∃ σ, q = .go σ ∧ Ord n σ.1 ∧ ∀ p q, p < q → q < n → keyG left σ.1 q ≤ keyG left σ.1 p) (fun σ => ((n : Int) - σ.2).toNat) (fun σ ⟨i1, i2, i3⟩ => by
    obtain ⟨l, x⟩ := σ
    dsimp only at i1 i2 i3
    obtain ⟨x, rfl⟩ := Int.eq_ofNat_of_zero_le (show 0 ≤ x by omega)
    unfold slices_insertionSortCmpFunc_int_gale_Make_c1_B1
    dsimp only
    by_cases c : (x : Int) < (n : Int)
    · obtain ⟨l', x', e, ho, hs⟩ := ins_loop2 hn i1 hl (x := x) (by omega) (fun p q hpq hq => i3 p q hpq (by omega) (by omega))
      rw [if_pos c, e, bind_some']
      dsimp only
      rw [ck_some (inI_small (by omega) (by omega))]
      exact .inl ⟨_, rfl, ⟨ho, by show 1 ≤ (x : Int) + 1; omega, fun p q hpq hq _ => hs p q hpq (by have : (q : Int) < (x : Int) + 1 := hq; omega)⟩, by show ((n : Int) - ((x : Int) + 1)).toNat < ((n : Int) - (x : Int)).toNat; omega⟩
    · rw [if_neg c]
      exact .inr (.inl ⟨_, rfl, _, rfl, i1, fun p q hpq hq => i3 p q hpq (by omega) hq⟩)) (n := 1000000) (s := (l, 0 + 1)) ⟨h, by show (1 : Int) ≤ 0 + 1; omega, fun p q hpq hq _ => by have : (q : Int) < 0 + 1 := hq; omega⟩ (by show ((n : Int) - (0 + 1)).toNat < _; omega)
  unfold slices_insertionSortCmpFunc_int_gale_Make_c1_F
  rw [ck_some (inI_small (by omega) (by omega)), e, bind_some']
  exact ⟨l', rfl, hq⟩
/-- the order is by what the columns still want, the most first -/
theorem sort_desc {n : Nat} (hn : n ≤ 12) {l left : List Int} (h : Ord n l) (hl : left.length = n) : ∃ l', slices_SortFunc_int_gale_Make_c1_F l left = some l' ∧ Ord n l' ∧ ∀ p q, p < q → q < n → keyG left l' q ≤ keyG left l' p := by
  obtain ⟨l', e, ho, hs⟩ := ins_ok2 hn h hl
  have hlen := h.len
  have hlen' := ho.len
  obtain ⟨r, er⟩ := Option.isSome_iff_exists.1 (len_table ⟨n, by omega⟩)
  have er' : bits_Len_F (IntKind.u64.wrap ((n : Nat) : Int)) = some r := er
  obtain ⟨q, e2, rfl⟩ := loopC_or (f := slices_pdqsortCmpFunc_int_gale_Make_c1_B1 l 0 (n : Int) r left) (fun _ => True) (fun q => q = .ret l') (fun _ => 0) (fun σ _ => by
    unfold slices_pdqsortCmpFunc_int_gale_Make_c1_B1
    rw [ck_some (inI_small (by omega) (by omega)), if_pos (by omega), e, bind_some', ck_some (by omega)]
    exact .inr (.inr ⟨_, rfl, rfl⟩)) (n := 1000000) (s := ()) trivial (by omega)
  have e3 : slices_pdqsortCmpFunc_int_gale_Make_c1_F 100 l 0 (n : Int) r left = some l' := by
    show slices_pdqsortCmpFunc_int_gale_Make_c1_S (slices_pdqsortCmpFunc_int_gale_Make_c1_F 99) l 0 (n : Int) r left = some l'
    unfold slices_pdqsortCmpFunc_int_gale_Make_c1_S
    rw [e2, bind_some']
  unfold slices_SortFunc_int_gale_Make_c1_F
  rw [hlen, er', bind_some', e3, bind_some', ck_some (by omega)]
  exact ⟨l', rfl, ho, hs⟩
end Go.Proofs.Ytlpelkfcmeapiaa
