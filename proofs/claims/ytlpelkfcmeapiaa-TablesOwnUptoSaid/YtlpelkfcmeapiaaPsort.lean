/- Sorting by changing two entries over: what can be come to, and the insertion sort of a part. -/
import Derived.Test.YtlpelkfcmeapiaaPlA
import Derived.Test.YtlpelkfcmeapiaaGslices
namespace Go.Proofs.Ytlpelkfcmeapiaa
open Go Go.Proofs.Ytlpelkfcmeapiaa.Sx
set_option linter.unusedVariables false
set_option linter.unusedSimpArgs false
theorem cmpLess_eq (a b : Int) : cmp_Less_int_F a b = some (decide (a < b)) := by
  unfold cmp_Less_int_F cmp_isNaN_int_F
  simp only [bind_some', ne_eq, not_true_eq_false, decide_false, Bool.false_eq_true, if_false]
  repeat' split
  all_goals first | rfl | simp_all
theorem lessI (x y : Int) (_ : True) (_ : True) : ∃ r, cmp_Less_int_F x y = some r ∧ (r = true ↔ id x < id y) := ⟨_, cmpLess_eq x y, by simp⟩
theorem cmpC_eq (a b : Int) : cmp_Compare_int_F a b = some (if a < b then -1 else if b < a then 1 else 0) := by
  unfold cmp_Compare_int_F cmp_isNaN_int_F
  simp only [bind_some', ne_eq, not_true_eq_false, decide_false, Bool.false_eq_true, if_false]
  repeat' split
  all_goals first | rfl | omega
theorem orC_eq (x y : Int) : cmp_Or_int_F [x, y] = some (if x ≠ 0 then x else y) := by
  unfold cmp_Or_int_F
  have e : forC (cmp_Or_int_B1 [x, y]) [x, y].length 0 () = some (if x ≠ 0 then .ret x else if y ≠ 0 then .ret y else .go ()) := by
    show forC (cmp_Or_int_B1 [x, y]) 2 0 () = _
    by_cases c : x = 0 <;> by_cases d : y = 0 <;> simp [forC, cmp_Or_int_B1, c, d]
  rw [e, bind_some']
  by_cases c : x ≠ 0
  · rw [if_pos c, if_pos c]
  · rw [if_neg c, if_neg c]
    by_cases d : y ≠ 0
    · rw [if_pos d]
    · rw [if_neg d]
      have : y = 0 := Classical.byContradiction d
      rw [this]
def swapL (l : List Int) (i j : Nat) : List Int := (l.set i (l.getD j 0)).set j (l.getD i 0)
def swapJ (i j p : Nat) : Nat := if p = j then i else if p = i then j else p
theorem swapL_len (l : List Int) (i j : Nat) : (swapL l i j).length = l.length := by simp [swapL]
theorem swapL_getD {l : List Int} {i j : Nat} (hi : i < l.length) (hj : j < l.length) (p : Nat) : (swapL l i j).getD p 0 = l.getD (swapJ i j p) 0 := by
  unfold swapL swapJ
  rw [getD_set', getD_set']
  by_cases h1 : p = j
  · rw [if_pos ⟨h1, by simp; omega⟩, if_pos h1]
  · rw [if_neg (fun z => h1 z.1), if_neg h1]
    by_cases h2 : p = i
    · rw [if_pos ⟨h2, by omega⟩, if_pos h2]
    · rw [if_neg (fun z => h2 z.1), if_neg h2]
/-- l' comes of l by changing entries from a to b over -/
inductive Sw (a b : Nat) : List Int → List Int → Prop
  | refl (l : List Int) : Sw a b l l
  | step {l m : List Int} {i j : Nat} (h : Sw a b l m) (hi : a ≤ i ∧ i < b) (hj : a ≤ j ∧ j < b) : Sw a b l (swapL m i j)
theorem Sw.inv {a b : Nat} {l m : List Int} {P : List Int → Prop} (h : Sw a b l m) (hP : ∀ l i j, a ≤ i → i < b → a ≤ j → j < b → P l → P (swapL l i j)) (hl : P l) : P m := by
  induction h with
  | refl => exact hl
  | step _ hi hj ih => exact hP _ _ _ hi.1 hi.2 hj.1 hj.2 ih
theorem Sw.len {a b : Nat} {l m : List Int} (h : Sw a b l m) : m.length = l.length := h.inv (P := fun x => x.length = l.length) (fun x i j _ _ _ _ hx => by rw [swapL_len]; exact hx) rfl
theorem Sw.trans {a b : Nat} {l m o : List Int} (h : Sw a b l m) (h' : Sw a b m o) : Sw a b l o := by
  induction h' with
  | refl => exact h
  | step _ hi hj ih => exact .step ih hi hj
theorem Sw.mono {a b a' b' : Nat} {l m : List Int} (h : Sw a b l m) (ha : a' ≤ a) (hb : b ≤ b') : Sw a' b' l m := by
  induction h with
  | refl => exact .refl _
  | step _ hi hj ih => exact .step ih ⟨by omega, by omega⟩ ⟨by omega, by omega⟩
theorem Sw.out {a b : Nat} {l m : List Int} (h : Sw a b l m) {p : Nat} (hp : p < a ∨ b ≤ p) (hb : b ≤ l.length) : m.getD p 0 = l.getD p 0 := by
  have := h.inv (P := fun x => x.length = l.length ∧ x.getD p 0 = l.getD p 0) (fun x i j h1 h2 h3 h4 ⟨x1, x2⟩ => ⟨by rw [swapL_len]; exact x1, by
    rw [swapL_getD (by omega) (by omega)]
    unfold swapJ
    rw [if_neg (by omega), if_neg (by omega)]; exact x2⟩) ⟨rfl, rfl⟩
  exact this.2
/-- each entry of the part was one of the part -/
theorem Sw.from {a b : Nat} {l m : List Int} (h : Sw a b l m) (hb : b ≤ l.length) : ∀ p, a ≤ p → p < b → ∃ q, a ≤ q ∧ q < b ∧ m.getD p 0 = l.getD q 0 := by
  have := h.inv (P := fun x => x.length = l.length ∧ ∀ p, a ≤ p → p < b → ∃ q, a ≤ q ∧ q < b ∧ x.getD p 0 = l.getD q 0) (fun x i j h1 h2 h3 h4 ⟨x1, x2⟩ => ⟨by rw [swapL_len]; exact x1, fun p hp1 hp2 => by
    rw [swapL_getD (by omega) (by omega)]
    unfold swapJ
    by_cases c1 : p = j
    · rw [if_pos c1]; exact x2 i h1 h2
    · rw [if_neg c1]
      by_cases c2 : p = i
      · rw [if_pos c2]; exact x2 j h3 h4
      · rw [if_neg c2]; exact x2 p hp1 hp2⟩) ⟨rfl, fun p h1 h2 => ⟨p, h1, h2, rfl⟩⟩
  exact this.2
theorem Sw.mem {a b : Nat} {l m : List Int} (h : Sw a b l m) (hb : b ≤ l.length) {x : Int} (hx : x ∈ m) : x ∈ l := by
  have hl := h.len
  obtain ⟨k, hk, e⟩ := getD_of_mem (d := 0) hx
  by_cases c : a ≤ k ∧ k < b
  · obtain ⟨q, q1, q2, q3⟩ := h.from hb k c.1 c.2
    rw [← e, q3]; exact mem_getD (by omega)
  · rw [← e, h.out (by omega) hb]; exact mem_getD (by omega)
/-- each entry once -/
def InjL (l : List Int) : Prop := ∀ p q, p < l.length → q < l.length → l.getD p 0 = l.getD q 0 → p = q
theorem InjL.sw {a b : Nat} {l m : List Int} (h : InjL l) (hs : Sw a b l m) (hb : b ≤ l.length) : InjL m := by
  have := hs.inv (P := fun x => x.length = l.length ∧ InjL x) (fun x i j h1 h2 h3 h4 ⟨x1, x2⟩ => ⟨by rw [swapL_len]; exact x1, fun p q hp hq e => by
    rw [swapL_len] at hp hq
    rw [swapL_getD (by omega) (by omega), swapL_getD (by omega) (by omega)] at e
    have hlt : ∀ y, y < x.length → swapJ i j y < x.length := fun y hy => by
      unfold swapJ
      repeat' split
      all_goals omega
    have := x2 _ _ (hlt p hp) (hlt q hq) e
    unfold swapJ at this
    repeat' split at this
    all_goals omega⟩) ⟨rfl, h⟩
  exact this.2
/-- in order from a to b, by κ -/
def AscK (κ : Int → Int) (a b : Nat) (l : List Int) : Prop := ∀ p q, a ≤ p → p < q → q < b → κ (l.getD p 0) ≤ κ (l.getD q 0)
def AllV (V : Int → Prop) (l : List Int) : Prop := ∀ p, p < l.length → V (l.getD p 0)
theorem AllV.sw {V : Int → Prop} {a b : Nat} {l m : List Int} (h : AllV V l) (hs : Sw a b l m) (hb : b ≤ l.length) : AllV V m := fun p hp => by
  have hl := hs.len
  by_cases c : a ≤ p ∧ p < b
  · obtain ⟨q, q1, q2, q3⟩ := hs.from hb p c.1 c.2
    rw [q3]; exact h q (by omega)
  · rw [hs.out (by omega) hb]; exact h p (by omega)
/-- in order up to x, but for the one at y, which stands ahead of what comes behind it -/
structure InsK (κ : Int → Int) (a x y : Nat) (l : List Int) : Prop where
  a : ∀ p q, a ≤ p → p < q → q ≤ x → p ≠ y → q ≠ y → κ (l.getD p 0) ≤ κ (l.getD q 0)
  b : ∀ q, y < q → q ≤ x → κ (l.getD y 0) ≤ κ (l.getD q 0)
theorem InsK.step {κ : Int → Int} {a x y : Nat} {l : List Int} (h : InsK κ a x y l) (h0 : a < y) (hy : y < l.length) (hyx : y ≤ x) (hk : κ (l.getD y 0) ≤ κ (l.getD (y - 1) 0)) : InsK κ a x (y - 1) (swapL l y (y - 1)) := by
  have ks := swapL_getD (l := l) (i := y) (j := y - 1) hy (by omega)
  refine ⟨fun p q ha hpq hq hp1 hq1 => ?_, fun q hq1 hq2 => ?_⟩
  · rw [ks, ks]
    unfold swapJ
    rw [if_neg hq1, if_neg hp1]
    by_cases z1 : q = y
    · rw [if_pos z1, if_neg (by omega)]
      exact h.a p (y - 1) ha (by omega) (by omega) (by omega) (by omega)
    · rw [if_neg z1]
      by_cases z2 : p = y
      · rw [if_pos z2]
        exact h.a (y - 1) q (by omega) (by omega) hq (by omega) z1
      · rw [if_neg z2]
        exact h.a p q ha hpq hq z2 z1
  · rw [ks, ks]
    unfold swapJ
    rw [if_neg (show ¬ q = y - 1 by omega), if_pos rfl]
    by_cases z : q = y
    · rw [if_pos z]; exact hk
    · rw [if_neg z]; exact h.b q (by omega) hq2
theorem InsK.done {κ : Int → Int} {a x y : Nat} {l : List Int} (h : InsK κ a x y l) (hk : y = a ∨ κ (l.getD (y - 1) 0) ≤ κ (l.getD y 0)) : AscK κ a (x + 1) l := fun p q ha hpq hq => by
  by_cases z1 : q = y
  · subst z1
    rcases hk with hk | hk
    · omega
    · by_cases z2 : p = q - 1
      · rw [z2]; exact hk
      · have := h.a p (q - 1) ha (by omega) (by omega) (by omega) (by omega)
        omega
  · by_cases z2 : p = y
    · subst z2; exact h.b q hpq (by omega)
    · exact h.a p q ha hpq (by omega) z2 z1

theorem lenO_table : ∀ m : Fin 13, (bits_Len_F (IntKind.u64.wrap ((m.val : Nat) : Int))).isSome = true := by decide +kernel
theorem revO_ok {l : List Int} (hl : l.length ≤ 1000) : ∃ l', slices_Reverse_int_F l = some l' ∧ Sw 0 l.length l l' ∧ ∀ p, p < l.length → l'.getD p 0 = l.getD (l.length - 1 - p) 0 := by
  obtain ⟨q, e, ⟨m, i, x⟩, rfl, hq⟩ := loopC_or (f := slices_Reverse_int_B1) (fun σ => Sw 0 l.length l σ.1 ∧ σ.2.2 = (l.length : Int) - 1 - σ.2.1 ∧ 2 * σ.2.1 ≤ l.length + 1 ∧ ∀ p, p < l.length → σ.1.getD p 0 = if p < σ.2.1 ∨ σ.2.2 < (p : Int) then l.getD (l.length - 1 - p) 0 else l.getD p 0)
    (fun q => ∃ σ, q = .go σ ∧ Sw 0 l.length l σ.1 ∧ ∀ p, p < l.length → σ.1.getD p 0 = l.getD (l.length - 1 - p) 0) (fun σ => σ.2.2.toNat) (fun σ ⟨i1, i2, i3, i4⟩ => by
    obtain ⟨m, i, x⟩ := σ
    dsimp only at i1 i2 i3 i4
    subst i2
    have hlen := i1.len
    unfold slices_Reverse_int_B1
    dsimp only
    by_cases c : (i : Int) < (l.length : Int) - 1 - (i : Int)
    · have ex : ((l.length : Int) - 1 - (i : Int)).toNat = l.length - 1 - i := by omega
      rw [if_pos c, ck_some (by omega), ck_some (by omega), ck_some (inI_small (by omega) (by omega)), ck_some (inI_small (by omega) (by omega)), ex]
      refine .inl ⟨_, rfl, ⟨i1.step ⟨by omega, by omega⟩ ⟨by omega, by omega⟩, by show (l.length : Int) - 1 - (i : Int) - 1 = (l.length : Int) - 1 - ((i + 1 : Nat) : Int); omega, by show 2 * (i + 1) ≤ _; omega, fun p hp => ?_⟩, by show ((l.length : Int) - 1 - (i : Int) - 1).toNat < l.length - 1 - i; omega⟩
      show (swapL m i (l.length - 1 - i)).getD p 0 = if p < i + 1 ∨ (l.length : Int) - 1 - (i : Int) - 1 < (p : Int) then _ else _
      rw [swapL_getD (by omega) (by omega)]
      unfold swapJ
      by_cases c1 : p = l.length - 1 - i
      · rw [if_pos c1, i4 i (by omega), if_neg (by omega), if_pos (by omega), show l.length - 1 - p = i by omega]
      · rw [if_neg c1]
        by_cases c2 : p = i
        · rw [if_pos c2, i4 _ (by omega), if_neg (by omega), if_pos (by omega), c2]
        · rw [if_neg c2, i4 p hp]
          by_cases c3 : p < i ∨ (l.length : Int) - 1 - (i : Int) < (p : Int)
          · rw [if_pos c3, if_pos (by omega)]
          · rw [if_neg c3, if_neg (by omega)]
    · rw [if_neg c]
      refine .inr (.inl ⟨_, rfl, _, rfl, i1, fun p hp => ?_⟩)
      dsimp only
      rw [i4 p hp]
      by_cases c3 : p < i ∨ (l.length : Int) - 1 - (i : Int) < (p : Int)
      · rw [if_pos c3]
      · rw [if_neg c3, show l.length - 1 - p = p by omega]) (n := 1000000) (s := (l, 0, (l.length : Int) - 1)) ⟨.refl _, by show (l.length : Int) - 1 = (l.length : Int) - 1 - ((0 : Nat) : Int); omega, by show 2 * 0 ≤ _; omega, fun p hp => by
      rw [if_neg]
      show ¬ (p < 0 ∨ (l.length : Int) - 1 < (p : Int))
      omega⟩ (by show ((l.length : Int) - 1).toNat < _; omega)
  unfold slices_Reverse_int_F
  rw [ck_some (inI_small (by omega) (by omega)), e, bind_some']
  exact ⟨m, rfl, hq⟩
end Go.Proofs.Ytlpelkfcmeapiaa
