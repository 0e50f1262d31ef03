/- Sorting of any length: what stands apart, heaps, how many bits a number has. -/
import Derived.Test.YtlpelkfcmeapiaaPsort
namespace Go.Proofs.Ytlpelkfcmeapiaa
open Go Go.Proofs.Ytlpelkfcmeapiaa.Sx
set_option linter.unusedVariables false
set_option linter.unusedSimpArgs false
theorem inI_b {x : Int} (h1 : -1000000000000000000 ≤ x) (h2 : x ≤ 1000000000000000000) : InI x := by unfold InI; omega
section
variable {κ : Int → Int}
/-- nothing of the part is less than what stands ahead of it -/
def Fen (κ : Int → Int) (a b : Nat) (l : List Int) : Prop := a = 0 ∨ ∀ p, a ≤ p → p < b → κ (l.getD (a - 1) 0) ≤ κ (l.getD p 0)
theorem Fen.sw {a b : Nat} {l m : List Int} (h : Fen κ a b l) (hs : Sw a b l m) (hb : b ≤ l.length) : Fen κ a b m := by
  rcases h with h | h
  · exact .inl h
  · by_cases z : a = 0
    · exact .inl z
    · refine .inr fun p h1 h2 => ?_
      obtain ⟨q, q1, q2, q3⟩ := hs.from hb p h1 h2
      rw [hs.out (p := a - 1) (by omega) hb, q3]
      exact h q q1 q2
theorem Fen.mono {a b b' : Nat} {l : List Int} (h : Fen κ a b l) (hb : b' ≤ b) : Fen κ a b' l := h.imp id fun h p h1 h2 => h p h1 (by omega)
/-- all is in order but what lies within a part -/
def Done (κ : Int → Int) (a b a' b' : Nat) (l : List Int) : Prop := ∀ p q, a ≤ p → p < q → q < b → (p < a' ∨ b' ≤ q) → κ (l.getD p 0) ≤ κ (l.getD q 0)
theorem Done.sw {a b a' b' : Nat} {l m : List Int} (h : Done κ a b a' b' l) (hs : Sw a' b' l m) (h1 : a ≤ a') (h2 : b' ≤ b) (hb : b' ≤ l.length) : Done κ a b a' b' m := fun p q hp hpq hq hc => by
  by_cases c1 : p < a'
  · rw [hs.out (p := p) (.inl c1) hb]
    by_cases c2 : a' ≤ q ∧ q < b'
    · obtain ⟨q', q1, q2, q3⟩ := hs.from hb q c2.1 c2.2
      rw [q3]; exact h p q' hp (by omega) (by omega) (.inl c1)
    · rw [hs.out (p := q) (by omega) hb]; exact h p q hp hpq hq (.inl c1)
  · have c3 : b' ≤ q := by omega
    rw [hs.out (p := q) (.inr c3) hb]
    by_cases c2 : p < b'
    · obtain ⟨p', q1, q2, q3⟩ := hs.from hb p (by omega) c2
      rw [q3]; exact h p' q (by omega) (by omega) hq (.inr c3)
    · rw [hs.out (p := p) (by omega) hb]; exact h p q hp hpq hq (.inr c3)
theorem Done.asc {a b a' b' : Nat} {l : List Int} (h : Done κ a b a' b' l) (hs : AscK κ a' b' l) : AscK κ a b l := fun p q hp hpq hq => by
  by_cases c : p < a' ∨ b' ≤ q
  · exact h p q hp hpq hq c
  · exact hs p q (by omega) hpq (by omega)
theorem Done.fen {a b a' b' : Nat} {l : List Int} (h : Done κ a b a' b' l) (h0 : Fen κ a b l) (h1 : a ≤ a') (h2 : b' ≤ b) : Fen κ a' b' l := by
  by_cases c : a' = a
  · subst c; exact h0.mono h2
  · exact .inr fun p hp hb => h (a' - 1) p (by omega) (by omega) (by omega) (.inl (by omega))
/-- one place, with what is not greater ahead of it, and what is not less behind it -/
structure PartK (κ : Int → Int) (a b m : Nat) (l : List Int) : Prop where
  am : a ≤ m
  mb : m < b
  lo : ∀ p, a ≤ p → p < m → κ (l.getD p 0) ≤ κ (l.getD m 0)
  hi : ∀ p, m < p → p < b → κ (l.getD m 0) ≤ κ (l.getD p 0)
theorem PartK.swL {a b m : Nat} {l l' : List Int} (h : PartK κ a b m l) (hs : Sw a m l l') (hb : b ≤ l.length) : PartK κ a b m l' := by
  have hm := h.mb
  refine ⟨h.am, hm, fun p h1 h2 => ?_, fun p h1 h2 => ?_⟩
  · obtain ⟨q, q1, q2, q3⟩ := hs.from (by omega) p h1 h2
    rw [q3, hs.out (p := m) (by omega) (by omega)]; exact h.lo q q1 q2
  · rw [hs.out (p := m) (by omega) (by omega), hs.out (p := p) (by omega) (by omega)]; exact h.hi p h1 h2
theorem PartK.swR {a b m : Nat} {l l' : List Int} (h : PartK κ a b m l) (hs : Sw (m + 1) b l l') (hb : b ≤ l.length) : PartK κ a b m l' := by
  have hm := h.mb
  refine ⟨h.am, hm, fun p h1 h2 => ?_, fun p h1 h2 => ?_⟩
  · rw [hs.out (p := m) (by omega) (by omega), hs.out (p := p) (by omega) (by omega)]; exact h.lo p h1 h2
  · obtain ⟨q, q1, q2, q3⟩ := hs.from (by omega) p (by omega) h2
    rw [q3, hs.out (p := m) (by omega) (by omega)]; exact h.hi q (by omega) q2
theorem Done.left {a b a' b' m : Nat} {l : List Int} (h : Done κ a b a' b' l) (hp : PartK κ a' b' m l) (hs : AscK κ a' m l) : Done κ a b (m + 1) b' l := fun p q h1 h2 h3 hc => by
  have := hp.am; have := hp.mb
  by_cases c : p < a' ∨ b' ≤ q
  · exact h p q h1 h2 h3 c
  · by_cases c1 : p = m
    · subst c1; exact hp.hi q h2 (by omega)
    · by_cases c2 : q = m
      · subst c2; exact hp.lo p (by omega) (by omega)
      · by_cases c3 : q < m
        · exact hs p q (by omega) h2 c3
        · exact Int.le_trans (hp.lo p (by omega) (by omega)) (hp.hi q (by omega) (by omega))
theorem Done.right {a b a' b' m : Nat} {l : List Int} (h : Done κ a b a' b' l) (hp : PartK κ a' b' m l) (hs : AscK κ (m + 1) b' l) : Done κ a b a' m l := fun p q h1 h2 h3 hc => by
  have := hp.am; have := hp.mb
  by_cases c : p < a' ∨ b' ≤ q
  · exact h p q h1 h2 h3 c
  · by_cases c2 : q = m
    · subst c2; exact hp.lo p (by omega) (by omega)
    · by_cases c1 : p = m
      · subst c1; exact hp.hi q h2 (by omega)
      · by_cases c3 : p < m
        · exact Int.le_trans (hp.lo p (by omega) (by omega)) (hp.hi q (by omega) (by omega))
        · exact hs p q (by omega) h2 (by omega)
theorem Done.equal {a b a' b' i : Nat} {l : List Int} (h : Done κ a b a' b' l) (hs : ∀ p q, a' ≤ p → p < i → a' ≤ q → q < b' → κ (l.getD p 0) ≤ κ (l.getD q 0)) : Done κ a b i b' l := fun p q h1 h2 h3 hc => by
  by_cases c : p < a' ∨ b' ≤ q
  · exact h p q h1 h2 h3 c
  · exact hs p q (by omega) (by omega) (by omega) (by omega)
/-- side by side in order -/
theorem asc_adj {a b : Nat} {l : List Int} (h : ∀ p, a < p → p < b → κ (l.getD (p - 1) 0) ≤ κ (l.getD p 0)) : AscK κ a b l := by
  have key : ∀ d p, a ≤ p → p + 1 + d < b → κ (l.getD p 0) ≤ κ (l.getD (p + 1 + d) 0) := fun d => by
    induction d with
    | zero => intro p h1 h2; exact h (p + 1) (by omega) h2
    | succ d ih =>
      intro p h1 h2
      exact Int.le_trans (ih p h1 (by omega)) (h (p + 1 + (d + 1)) (by omega) h2)
  intro p q h1 h2 h3
  have := key (q - p - 1) p h1 (by omega)
  rwa [show p + 1 + (q - p - 1) = q by omega] at this
/-! ### heaps -/
def Heap (κ : Int → Int) (f lo hi : Nat) (l : List Int) : Prop := ∀ c, 0 < c → c < hi → lo ≤ (c - 1) / 2 → κ (l.getD (f + c) 0) ≤ κ (l.getD (f + (c - 1) / 2) 0)
/-- a heap but for what stands at x -/
structure HeapX (κ : Int → Int) (f lo hi x : Nat) (l : List Int) : Prop where
  a : ∀ c, 0 < c → c < hi → lo ≤ (c - 1) / 2 → (c - 1) / 2 ≠ x → κ (l.getD (f + c) 0) ≤ κ (l.getD (f + (c - 1) / 2) 0)
  b : ∀ c, 0 < c → c < hi → (c - 1) / 2 = x → 0 < x → lo ≤ (x - 1) / 2 → κ (l.getD (f + c) 0) ≤ κ (l.getD (f + (x - 1) / 2) 0)
theorem HeapX.begin {f lo hi : Nat} {l : List Int} (h : Heap κ f (lo + 1) hi l) : HeapX κ f lo hi lo l :=
  ⟨fun c h1 h2 h3 h4 => h c h1 h2 (by omega), fun c h1 h2 h3 h4 h5 => by omega⟩
theorem HeapX.done {f lo hi x : Nat} {l : List Int} (h : HeapX κ f lo hi x l) (hx : ∀ c, 0 < c → c < hi → (c - 1) / 2 = x → κ (l.getD (f + c) 0) ≤ κ (l.getD (f + x) 0)) : Heap κ f lo hi l := fun c h1 h2 h3 => by
  by_cases z : (c - 1) / 2 = x
  · rw [z]; exact hx c h1 h2 z
  · exact h.a c h1 h2 h3 z
theorem HeapX.step {f lo hi x ch : Nat} {l : List Int} (h : HeapX κ f lo hi x l) (hlo : lo ≤ x) (hl : f + hi ≤ l.length) (h0 : 0 < ch) (hch : ch < hi) (hp : (ch - 1) / 2 = x) (hk : κ (l.getD (f + x) 0) ≤ κ (l.getD (f + ch) 0))
    (hm : ∀ c, 0 < c → c < hi → (c - 1) / 2 = x → κ (l.getD (f + c) 0) ≤ κ (l.getD (f + ch) 0)) : HeapX κ f lo hi ch (swapL l (f + x) (f + ch)) := by
  have hs := swapL_getD (l := l) (i := f + x) (j := f + ch) (by omega) (by omega)
  have ox : ∀ c, c ≠ x → c ≠ ch → (swapL l (f + x) (f + ch)).getD (f + c) 0 = l.getD (f + c) 0 := fun c h1 h2 => by
    rw [hs]; unfold swapJ; rw [if_neg (by omega), if_neg (by omega)]
  have ex : (swapL l (f + x) (f + ch)).getD (f + x) 0 = l.getD (f + ch) 0 := by
    rw [hs]; unfold swapJ; rw [if_neg (by omega), if_pos rfl]
  have ec : (swapL l (f + x) (f + ch)).getD (f + ch) 0 = l.getD (f + x) 0 := by
    rw [hs]; unfold swapJ; rw [if_pos rfl]
  refine ⟨fun c c1 c2 c3 c4 => ?_, fun c c1 c2 c3 c4 c5 => ?_⟩
  · by_cases z1 : c = ch
    · subst z1; rw [hp, ec, ex]; exact hk
    · by_cases z2 : c = x
      · subst z2
        rw [ex, ox _ (by omega) (by omega)]
        exact h.b ch h0 hch hp c1 c3
      · rw [ox c z2 z1]
        by_cases z3 : (c - 1) / 2 = x
        · rw [z3, ex]; exact hm c c1 c2 z3
        · rw [ox _ z3 c4]; exact h.a c c1 c2 c3 z3
  · rw [hp, ex, ox c (by omega) (by omega)]
    have := h.a c c1 c2 (by omega) (by omega)
    rwa [c3] at this
theorem Heap.max {f hi : Nat} {l : List Int} (h : Heap κ f 0 hi l) : ∀ c, c < hi → κ (l.getD (f + c) 0) ≤ κ (l.getD f 0) := fun c => by
  induction c using Nat.strongRecOn with
  | ind c ih =>
    intro hc
    by_cases z : c = 0
    · subst z; exact Int.le_refl _
    · exact Int.le_trans (h c (by omega) hc (Nat.zero_le _)) (ih ((c - 1) / 2) (by omega) (by omega))
end
/-! ### bits -/
theorem blen_lt (n : Nat) : n < 2 ^ blen n := by
  unfold blen
  by_cases z : n = 0
  · rw [if_pos z, z]; decide
  · rw [if_neg z]; exact Nat.lt_log2_self
theorem blen_le {n : Nat} (h : 0 < n) : 2 ^ blen n ≤ 2 * n := by
  unfold blen
  rw [if_neg (by omega), Nat.pow_succ]
  have := Nat.log2_self_le (n := n) (by omega)
  omega
theorem blen_le_of {n k : Nat} (h : n < 2 ^ k) : blen n ≤ k := by
  unfold blen
  by_cases z : n = 0
  · rw [if_pos z]; exact Nat.zero_le _
  · rw [if_neg z]
    have := (Nat.log2_lt z).2 h
    omega
theorem blen_shift {n k : Nat} (h : 2 ^ k ≤ n) : blen n = blen (n / 2 ^ k) + k := by
  have h0 : 0 < 2 ^ k := Nat.pow_pos (by decide)
  have hq : n / 2 ^ k ≠ 0 := by
    have := Nat.div_pos h h0
    omega
  unfold blen
  rw [if_neg (by omega), if_neg hq]
  have e : Nat.log2 n = Nat.log2 (n / 2 ^ k) + k := by
    have a1 := Nat.log2_self_le hq
    have a2 := Nat.lt_log2_self (n := n / 2 ^ k)
    have b1 : 2 ^ (Nat.log2 (n / 2 ^ k) + k) ≤ n := by
      rw [Nat.pow_add]
      exact Nat.le_trans (Nat.mul_le_mul_right _ a1) (Nat.div_mul_le_self n _)
    have b2 : n < 2 ^ (Nat.log2 (n / 2 ^ k) + k + 1) := by
      rw [show Nat.log2 (n / 2 ^ k) + k + 1 = (Nat.log2 (n / 2 ^ k) + 1) + k by omega, Nat.pow_add]
      have : n < (n / 2 ^ k + 1) * 2 ^ k := by
        have := Nat.div_add_mod n (2 ^ k)
        have := Nat.mod_lt n h0
        rw [Nat.add_mul, Nat.mul_comm (n / 2 ^ k)]; omega
      exact Nat.lt_of_lt_of_le this (Nat.mul_le_mul_right _ a2)
    have c1 := (Nat.le_log2 (n := n) (by omega)).2 b1
    have c2 := (Nat.log2_lt (n := n) (by omega)).2 b2
    omega
  omega
theorem u8_small {x : Int} (h0 : 0 ≤ x) (h : x < 256) : IntKind.u8.wrap x = x := by rw [IntKind.wrap_u8]; omega
theorem u64_small {x : Int} (h0 : 0 ≤ x) (h : x < 18446744073709551616) : IntKind.u64.wrap x = x := by rw [IntKind.wrap_u64]; omega
theorem i64_small {x : Int} (h0 : 0 ≤ x) (h : x < 9223372036854775808) : IntKind.i64.wrap x = x := by rw [IntKind.wrap_i64]; omega
theorem len8_at {n : Nat} (h : n < 256) : len8s.getD n 0 = blen n := by
  unfold len8s
  rw [List.getD_eq_getElem?_getD, List.getElem?_map, List.getElem?_range h]; rfl
theorem fdiv_pow (n k : Nat) : Int.fdiv (n : Int) (2 ^ k) = ((n / 2 ^ k : Nat) : Int) := by
  have e : ((2 : Int) ^ k) = ((2 ^ k : Nat) : Int) := by rw [Int.natCast_pow]; rfl
  rw [e, Int.fdiv_eq_ediv_of_nonneg _ (Int.natCast_nonneg _), ← Int.natCast_ediv]
theorem len64_eq {n : Nat} (h : n < 18446744073709551616) : bits_Len64_F (n : Int) = some (blen n : Int) := by
  have last : ∀ (m k : Nat), m < 256 → k ≤ 56 → (ck (0 ≤ (IntKind.u8.wrap (m : Int)) ∧ (IntKind.u8.wrap (m : Int)) < 256) <| ck (InI ((k : Int) + (IntKind.i64.wrap (len8s.getD ((IntKind.u8.wrap (m : Int))).toNat 0)))) <| some ((k : Int) + (IntKind.i64.wrap (len8s.getD ((IntKind.u8.wrap (m : Int))).toNat 0)))) = some ((k : Int) + (blen m : Int)) := fun m k hm hk => by
    have hb := blen_le_of (n := m) (k := 8) hm
    rw [u8_small (by omega) (by omega), Int.toNat_natCast, len8_at hm, i64_small (by omega) (by omega), ck_some (by omega), ck_some (inI_small (by omega) (by omega))]
  have mid : ∀ (m k : Nat), m < 65536 → k ≤ 48 → (((if 256 ≤ (m : Int) then ck (InI ((k : Int) + 8)) <| some ((Int.fdiv (m : Int) (2 ^ min 8 64)), ((k : Int) + 8)) else some ((m : Int), (k : Int))) : Option (Int × Int)).bind fun (x12, x13) =>
      ck (0 ≤ (IntKind.u8.wrap x12) ∧ (IntKind.u8.wrap x12) < 256) <| ck (InI (x13 + (IntKind.i64.wrap (len8s.getD ((IntKind.u8.wrap x12)).toNat 0)))) <| some (x13 + (IntKind.i64.wrap (len8s.getD ((IntKind.u8.wrap x12)).toNat 0)))) = some ((k : Int) + (blen m : Int)) := fun m k hm hk => by
    by_cases c : 256 ≤ (m : Int)
    · rw [if_pos c, ck_some (inI_small (by omega) (by omega)), bind_some', show min 8 64 = 8 from rfl, fdiv_pow m 8]
      have := last (m / 2 ^ 8) (k + 8) (by omega) (by omega)
      rw [show ((k + 8 : Nat) : Int) = (k : Int) + 8 by omega] at this
      refine Eq.trans this ?_
      have e := blen_shift (n := m) (k := 8) (by omega)
      rw [e]
      refine congrArg some ?_
      omega
    · rw [if_neg c, bind_some']
      have := last m k (by omega) (by omega)
      dsimp only
      rw [this]
  have mid2 : ∀ (m k : Nat), m < 4294967296 → k ≤ 32 → (((if 65536 ≤ (m : Int) then ck (InI ((k : Int) + 16)) <| some ((Int.fdiv (m : Int) (2 ^ min 16 64)), ((k : Int) + 16)) else some ((m : Int), (k : Int))) : Option (Int × Int)).bind fun (x6, x7) =>
      (((if 256 ≤ x6 then ck (InI (x7 + 8)) <| some ((Int.fdiv x6 (2 ^ min 8 64)), (x7 + 8)) else some (x6, x7)) : Option (Int × Int)).bind fun (x12, x13) =>
      ck (0 ≤ (IntKind.u8.wrap x12) ∧ (IntKind.u8.wrap x12) < 256) <| ck (InI (x13 + (IntKind.i64.wrap (len8s.getD ((IntKind.u8.wrap x12)).toNat 0)))) <| some (x13 + (IntKind.i64.wrap (len8s.getD ((IntKind.u8.wrap x12)).toNat 0))))) = some ((k : Int) + (blen m : Int)) := fun m k hm hk => by
    by_cases c : 65536 ≤ (m : Int)
    · rw [if_pos c, ck_some (inI_small (by omega) (by omega)), bind_some', show min 16 64 = 16 from rfl, fdiv_pow m 16]
      dsimp only
      have := mid (m / 2 ^ 16) (k + 16) (by omega) (by omega)
      rw [show ((k + 16 : Nat) : Int) = (k : Int) + 16 by omega] at this
      rw [this, blen_shift (n := m) (k := 16) (by omega)]
      congr 1; omega
    · rw [if_neg c, bind_some']
      dsimp only
      exact mid m k (by omega) (by omega)
  unfold bits_Len64_F
  by_cases c : 4294967296 ≤ (n : Int)
  · rw [if_pos c, bind_some', show min 32 64 = 32 from rfl, fdiv_pow n 32]
    dsimp only
    have hm := mid2 (n / 2 ^ 32) 32 (by omega) (by omega)
    rw [show ((32 : Nat) : Int) = 32 from rfl] at hm
    refine Eq.trans hm ?_
    rw [blen_shift (n := n) (k := 32) (by omega)]
    congr 1; omega
  · rw [if_neg c, bind_some']
    have hm := mid2 n 0 (by omega) (by omega)
    rw [show ((0 : Nat) : Int) = 0 from rfl] at hm
    refine Eq.trans hm ?_
    congr 1; omega
theorem len_eq {n : Nat} (h : n < 18446744073709551616) : bits_Len_F (n : Int) = some (blen n : Int) := by
  unfold bits_Len_F
  rw [len64_eq h, bind_some']
theorem next_eq {n : Nat} (h : n ≤ 100000000000000000) : slices_nextPowerOfTwo_F (n : Int) = some ((2 ^ blen n : Nat) : Int) := by
  have hb := blen_le_of (n := n) (k := 60) (by omega)
  have hp : 2 ^ blen n ≤ 2 ^ 60 := Nat.pow_le_pow_right (by decide) hb
  unfold slices_nextPowerOfTwo_F
  rw [u64_small (by omega) (by omega), len_eq (by omega), bind_some', ck_some (by omega), Int.toNat_natCast, Nat.min_eq_left (by omega), Int.one_mul]
  have e : ((2 : Int) ^ blen n) = ((2 ^ blen n : Nat) : Int) := by rw [Int.natCast_pow]; rfl
  rw [e]
  generalize 2 ^ blen n = q at hp
  rw [u64_small (by omega) (by omega)]
/-- the lower bits of a number -/
theorem and_le (x : Int) {m : Nat} (hm : m < 9223372036854775808) : 0 ≤ IntKind.i64.wrap (bitsOf .and .u64 x (m : Int)) ∧ IntKind.i64.wrap (bitsOf .and .u64 x (m : Int)) ≤ m := by
  have e : ∃ k : Nat, bitsOf .and .u64 x (m : Int) = (k : Int) ∧ k ≤ m := by
    unfold bitsOf
    dsimp only
    have h1 : (BitVec.ofInt 64 x &&& BitVec.ofInt 64 (m : Int)).toNat ≤ m := by
      rw [BitVec.toNat_and]
      have : (BitVec.ofInt 64 (m : Int)).toNat = m := by
        rw [BitVec.ofInt_natCast, BitVec.toNat_ofNat]; exact Nat.mod_eq_of_lt (by omega)
      exact Nat.le_trans Nat.and_le_right (by omega)
    refine ⟨(BitVec.ofInt 64 x &&& BitVec.ofInt 64 (m : Int)).toNat, ?_, h1⟩
    show IntKind.u64.wrap (((BitVec.ofInt 64 x &&& BitVec.ofInt 64 (m : Int)).toNat : Nat) : Int) = _
    rw [u64_small (by omega) (by omega)]
  obtain ⟨k, e, hk⟩ := e
  rw [e, i64_small (by omega) (by omega)]
  omega
theorem nextR_eq (x : Int) : ∃ a b, slices_Next_F x = some (a, b) := by
  unfold slices_Next_F; exact ⟨_, _, rfl⟩
theorem tdiv2 (n : Nat) : Int.tdiv (n : Int) 2 = ((n / 2 : Nat) : Int) := by rw [Int.tdiv_eq_ediv_of_nonneg (by omega)]; omega
theorem tdiv4 (n : Nat) : Int.tdiv (n : Int) 4 = ((n / 4 : Nat) : Int) := by rw [Int.tdiv_eq_ediv_of_nonneg (by omega)]; omega
theorem tdiv8 (n : Nat) : Int.tdiv (n : Int) 8 = ((n / 8 : Nat) : Int) := by rw [Int.tdiv_eq_ediv_of_nonneg (by omega)]; omega
/-! ### going on while something holds -/
theorem scan_up {ρ : Type} {f : Int → Option (Ct Int ρ)} (P : Int → Prop) {i j : Int} (hi : 0 ≤ i) (hj : j ≤ 100000000000000000)
    (hs : ∀ x, i ≤ x → x ≤ j → (P x ∧ f x = some (.go (x + 1))) ∨ (¬ P x ∧ f x = some (.brk x))) (he : ∀ x, i ≤ x → j < x → f x = some (.brk x)) :
    ∃ i' : Int, loopC f 1000000000000000000 i = some (.go i') ∧ i ≤ i' ∧ (i' ≤ j + 1 ∨ i' = i) ∧ (∀ p, i ≤ p → p < i' → P p) ∧ (i' ≤ j → ¬ P i') := by
  obtain ⟨q, e, x, rfl, hq⟩ := loopC_or (f := f) (fun x => i ≤ x ∧ (x ≤ j + 1 ∨ x = i) ∧ ∀ p, i ≤ p → p < x → P p) (fun q => ∃ x, q = .go x ∧ i ≤ x ∧ (x ≤ j + 1 ∨ x = i) ∧ (∀ p, i ≤ p → p < x → P p) ∧ (x ≤ j → ¬ P x)) (fun x => (j + 1 - x).toNat) (fun x ⟨i1, i2, i3⟩ => by
    by_cases c : x ≤ j
    · rcases hs x i1 c with ⟨h1, h2⟩ | ⟨h1, h2⟩
      · refine .inl ⟨_, h2, ⟨by omega, by omega, fun p h3 h4 => ?_⟩, by omega⟩
        by_cases w : p = x
        · rw [w]; exact h1
        · exact i3 p h3 (by omega)
      · exact .inr (.inl ⟨_, h2, x, rfl, i1, i2, i3, fun _ => h1⟩)
    · exact .inr (.inl ⟨_, he x i1 (by omega), x, rfl, i1, i2, i3, fun w => absurd w c⟩)) (n := 1000000000000000000) (s := i) ⟨Int.le_refl _, .inr rfl, fun p h1 h2 => by omega⟩ (by omega)
  exact ⟨x, e, hq⟩
theorem scan_down {ρ : Type} {f : Int → Option (Ct Int ρ)} (P : Int → Prop) {i j : Int} (hi : 0 ≤ i) (hj : j ≤ 100000000000000000)
    (hs : ∀ x, i ≤ x → x ≤ j → (P x ∧ f x = some (.go (x - 1))) ∨ (¬ P x ∧ f x = some (.brk x))) (he : ∀ x, x < i → f x = some (.brk x)) :
    ∃ j' : Int, loopC f 1000000000000000000 j = some (.go j') ∧ j' ≤ j ∧ (i - 1 ≤ j' ∨ j' = j) ∧ (∀ p, j' < p → p ≤ j → P p) ∧ (i ≤ j' → ¬ P j') := by
  obtain ⟨q, e, x, rfl, hq⟩ := loopC_or (f := f) (fun x => x ≤ j ∧ (i - 1 ≤ x ∨ x = j) ∧ ∀ p, x < p → p ≤ j → P p) (fun q => ∃ x, q = .go x ∧ x ≤ j ∧ (i - 1 ≤ x ∨ x = j) ∧ (∀ p, x < p → p ≤ j → P p) ∧ (i ≤ x → ¬ P x)) (fun x => (x + 1 - i).toNat) (fun x ⟨i1, i2, i3⟩ => by
    by_cases c : i ≤ x
    · rcases hs x c i1 with ⟨h1, h2⟩ | ⟨h1, h2⟩
      · refine .inl ⟨_, h2, ⟨by omega, by omega, fun p h3 h4 => ?_⟩, by omega⟩
        by_cases w : p = x
        · rw [w]; exact h1
        · exact i3 p (by omega) h4
      · exact .inr (.inl ⟨_, h2, x, rfl, i1, i2, i3, fun _ => h1⟩)
    · exact .inr (.inl ⟨_, he x (by omega), x, rfl, i1, i2, i3, fun w => absurd w c⟩)) (n := 1000000000000000000) (s := j) ⟨Int.le_refl _, .inr rfl, fun p h1 h2 => by omega⟩ (by omega)
  exact ⟨x, e, hq⟩
/-! ### the great loop -/
def PInv (κ : Int → Int) (a b : Nat) (l : List Int) (s : List Int × Int × Int × Int × Bool × Bool) : Prop :=
  ∃ a' b' : Nat, s.2.1 = a' ∧ s.2.2.1 = b' ∧ a ≤ a' ∧ a' ≤ b' ∧ b' ≤ b ∧ Sw a b l s.1 ∧ Done κ a b a' b' s.1 ∧ 0 ≤ s.2.2.2.1 ∧ s.2.2.2.1 ≤ 1000
/-- a round: it goes on with less, or all is in order -/
def PGood (κ : Int → Int) (a b : Nat) (l : List Int) (n : Nat) (o : Option (Ct (List Int × Int × Int × Int × Bool × Bool) (List Int))) : Prop :=
  (∃ s', o = some (.go s') ∧ PInv κ a b l s' ∧ (s'.2.2.1 - s'.2.1).toNat < n) ∨ ∃ l', o = some (.ret l') ∧ Sw a b l l' ∧ AscK κ a b l'
end Go.Proofs.Ytlpelkfcmeapiaa
