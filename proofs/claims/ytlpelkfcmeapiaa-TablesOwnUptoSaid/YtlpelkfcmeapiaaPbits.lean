/- Sets of nodes told by the bits of a number. -/
import Derived.Test.YtlpelkfcmeapiaaPlA
namespace Go.Proofs.Ytlpelkfcmeapiaa
open Go Go.Proofs.Ytlpelkfcmeapiaa.Sx
set_option linter.unusedVariables false
set_option linter.unusedSimpArgs false
/-- the bit of x -/
@[reducible] def bit (side x : Int) : Int := bitsOf .and .u16 (Int.fdiv side (2 ^ min x.toNat 16)) 1
theorem bit_fold (side x : Int) : bitsOf .and .u16 (Int.fdiv side (2 ^ min x.toNat 16)) 1 = bit side x := rfl
theorem and1 (y : Int) : bitsOf .and .u16 y 1 = y % 2 := by
  have e : bitsOf .and .u16 y 1 = IntKind.u16.wrap (((BitVec.ofInt 16 y &&& BitVec.ofInt 16 1).toNat : Nat) : Int) := rfl
  rw [e, BitVec.toNat_and, show (BitVec.ofInt 16 1).toNat = 1 from by decide, Nat.and_one_is_mod]
  have h : (BitVec.ofInt 16 y).toNat % 2 = (y % 2).toNat := by
    rw [BitVec.toNat_ofInt]; omega
  rw [h]
  rcases (by omega : y % 2 = 0 ∨ y % 2 = 1) with h | h <;> rw [h] <;> decide
theorem bit01 (side x : Int) : bit side x = 0 ∨ bit side x = 1 := by
  unfold bit
  rw [and1]
  omega
theorem bit_lsb (a : Int) {x : Nat} (hx : x < 16) : (bit a (x : Int) = 1) = ((BitVec.ofInt 16 a).getLsbD x = true) := by
  unfold bit
  rw [and1, BitVec.getLsbD, BitVec.toNat_ofInt, Nat.testBit_eq_decide_div_mod_eq, decide_eq_true_eq, Int.toNat_natCast]
  rcases (by omega : x = 0 ∨ x = 1 ∨ x = 2 ∨ x = 3 ∨ x = 4 ∨ x = 5 ∨ x = 6 ∨ x = 7 ∨ x = 8 ∨ x = 9 ∨ x = 10 ∨ x = 11 ∨ x = 12 ∨ x = 13 ∨ x = 14 ∨ x = 15) with
    rfl | rfl | rfl | rfl | rfl | rfl | rfl | rfl | rfl | rfl | rfl | rfl | rfl | rfl | rfl | rfl <;> simp only [Nat.reducePow, Nat.min_def, Nat.reduceLeDiff, if_true, Int.reducePow] <;> (apply propext; rw [Int.fdiv_eq_ediv_of_nonneg _ (by decide)]; omega)
theorem ofInt_wrap (v : BitVec 16) : BitVec.ofInt 16 (IntKind.u16.wrap ((v.toNat : Nat) : Int)) = v := by
  have h : IntKind.u16.wrap ((v.toNat : Nat) : Int) = ((v.toNat : Nat) : Int) := by
    have := v.isLt
    show ((v.toNat : Nat) : Int) % 65536 = _
    omega
  rw [h, BitVec.ofInt_natCast, BitVec.ofNat_toNat, BitVec.setWidth_eq]
theorem bit_and (a b : Int) {x : Int} (h0 : 0 ≤ x) (h1 : x < 16) : bit (bitsOf .and .u16 a b) x = 1 ↔ bit a x = 1 ∧ bit b x = 1 := by
  obtain ⟨k, rfl⟩ := Int.eq_ofNat_of_zero_le h0
  have e : bitsOf .and .u16 a b = IntKind.u16.wrap (((BitVec.ofInt 16 a &&& BitVec.ofInt 16 b).toNat : Nat) : Int) := rfl
  rw [bit_lsb _ (by omega), bit_lsb _ (by omega), bit_lsb _ (by omega), e, ofInt_wrap, BitVec.getLsbD_and, Bool.and_eq_true]
theorem bit_or (a b : Int) {x : Int} (h0 : 0 ≤ x) (h1 : x < 16) : bit (bitsOf .or .u16 a b) x = 1 ↔ bit a x = 1 ∨ bit b x = 1 := by
  obtain ⟨k, rfl⟩ := Int.eq_ofNat_of_zero_le h0
  have e : bitsOf .or .u16 a b = IntKind.u16.wrap (((BitVec.ofInt 16 a ||| BitVec.ofInt 16 b).toNat : Nat) : Int) := rfl
  rw [bit_lsb _ (by omega), bit_lsb _ (by omega), bit_lsb _ (by omega), e, ofInt_wrap, BitVec.getLsbD_or, Bool.or_eq_true]
theorem and_nat {a b : Int} (ha : 0 ≤ a ∧ a < 65536) (hb : 0 ≤ b ∧ b < 65536) : bitsOf .and .u16 a b = ((a.toNat &&& b.toNat : Nat) : Int) := by
  have e : bitsOf .and .u16 a b = IntKind.u16.wrap (((BitVec.ofInt 16 a &&& BitVec.ofInt 16 b).toNat : Nat) : Int) := rfl
  rw [e, BitVec.toNat_and, BitVec.toNat_ofInt, BitVec.toNat_ofInt, show (a % ((2 ^ 16 : Nat) : Int)).toNat = a.toNat by omega, show (b % ((2 ^ 16 : Nat) : Int)).toNat = b.toNat by omega]
  have := Nat.and_le_left (n := a.toNat) (m := b.toNat)
  show ((a.toNat &&& b.toNat : Nat) : Int) % 65536 = _
  omega
theorem or_nat {a b : Int} (ha : 0 ≤ a ∧ a < 65536) (hb : 0 ≤ b ∧ b < 65536) : bitsOf .or .u16 a b = ((a.toNat ||| b.toNat : Nat) : Int) := by
  have e : bitsOf .or .u16 a b = IntKind.u16.wrap (((BitVec.ofInt 16 a ||| BitVec.ofInt 16 b).toNat : Nat) : Int) := rfl
  rw [e, BitVec.toNat_or, BitVec.toNat_ofInt, BitVec.toNat_ofInt, show (a % ((2 ^ 16 : Nat) : Int)).toNat = a.toNat by omega, show (b % ((2 ^ 16 : Nat) : Int)).toNat = b.toNat by omega]
  have := Nat.or_lt_two_pow (n := 16) (x := a.toNat) (y := b.toNat) (by omega) (by omega)
  show ((a.toNat ||| b.toNat : Nat) : Int) % 65536 = _
  omega
theorem fdiv_zero {a : Int} {k : Nat} : Int.fdiv a (2 ^ k) = 0 ↔ 0 ≤ a ∧ a < 2 ^ k := by
  have hp : (0 : Int) < 2 ^ k := Int.pow_pos (by decide)
  rw [Int.fdiv_eq_ediv_of_nonneg _ (by omega)]
  constructor
  · intro h
    have h1 := Int.emod_add_mul_ediv a (2 ^ k)
    rw [h, Int.mul_zero, Int.add_zero] at h1
    have := Int.emod_nonneg a (show (2 ^ k : Int) ≠ 0 by omega)
    have := Int.emod_lt_of_pos a hp
    omega
  · rintro ⟨h1, h2⟩
    exact Int.ediv_eq_zero_of_lt h1 h2
theorem pow_le16 {k : Nat} (h : k ≤ 16) : (2 ^ k : Int) ≤ 65536 := by
  have := Nat.pow_le_pow_right (n := 2) (by decide) h
  have e : ((2 ^ k : Nat) : Int) = 2 ^ k := by simp
  omega
theorem hi_and {a b : Int} {k : Nat} (hk : k ≤ 16) (ha : Int.fdiv a (2 ^ k) = 0) (hb : Int.fdiv b (2 ^ k) = 0) : Int.fdiv (bitsOf .and .u16 a b) (2 ^ k) = 0 := by
  rw [fdiv_zero] at ha hb ⊢
  have := pow_le16 hk
  rw [and_nat (by omega) (by omega)]
  have := Nat.and_le_left (n := a.toNat) (m := b.toNat)
  omega
theorem hi_or {a b : Int} {k : Nat} (hk : k ≤ 16) (ha : Int.fdiv a (2 ^ k) = 0) (hb : Int.fdiv b (2 ^ k) = 0) : Int.fdiv (bitsOf .or .u16 a b) (2 ^ k) = 0 := by
  rw [fdiv_zero] at ha hb ⊢
  have := pow_le16 hk
  rw [or_nat (by omega) (by omega)]
  have e : ((2 ^ k : Nat) : Int) = 2 ^ k := by simp
  have := Nat.or_lt_two_pow (n := k) (x := a.toNat) (y := b.toNat) (by omega) (by omega)
  omega
/-- one node alone -/
def shl (y : Int) : Int := IntKind.u16.wrap (1 * 2 ^ min y.toNat 16)
theorem shl_table : ∀ y : Fin 16, ∀ x : Fin 16, decide (bit (shl ((y.val : Nat) : Int)) ((x.val : Nat) : Int) = 1) = decide (x.val = y.val) := by decide +kernel
theorem bit_shl {x y : Int} (hx : 0 ≤ x ∧ x < 16) (hy : 0 ≤ y ∧ y < 16) : bit (shl y) x = 1 ↔ x = y := by
  have h := shl_table ⟨y.toNat, by omega⟩ ⟨x.toNat, by omega⟩
  rw [decide_eq_decide] at h
  dsimp only at h
  rw [show ((y.toNat : Nat) : Int) = y by omega, show ((x.toNat : Nat) : Int) = x by omega] at h
  rw [h]; omega
theorem shl_hi_table : ∀ n : Fin 17, ∀ y : Fin 16, y.val < n.val → Int.fdiv (shl ((y.val : Nat) : Int)) (2 ^ n.val) = 0 := by decide +kernel
theorem shl_hi {y : Int} {n : Nat} (hn : n ≤ 16) (h0 : 0 ≤ y) (h1 : y < n) : Int.fdiv (shl y) (2 ^ n) = 0 := by
  have h := shl_hi_table ⟨n, by omega⟩ ⟨y.toNat, by omega⟩ (by dsimp only; omega)
  dsimp only at h
  rwa [show ((y.toNat : Nat) : Int) = y by omega] at h
/-- all nodes -/
def mask (n : Int) : Int := IntKind.u16.wrap (IntKind.u16.wrap (1 * 2 ^ min n.toNat 16) - 1)
theorem mask_table : ∀ n : Fin 17, (∀ x : Fin 16, decide (bit (mask ((n.val : Nat) : Int)) ((x.val : Nat) : Int) = 1) = decide (x.val < n.val)) ∧ Int.fdiv (mask ((n.val : Nat) : Int)) (2 ^ n.val) = 0 := by decide +kernel
theorem bit_mask {x n : Int} (hx : 0 ≤ x ∧ x < 16) (hn : 0 ≤ n ∧ n ≤ 16) : bit (mask n) x = 1 ↔ x < n := by
  have h := (mask_table ⟨n.toNat, by omega⟩).1 ⟨x.toNat, by omega⟩
  rw [decide_eq_decide] at h
  dsimp only at h
  rw [show ((n.toNat : Nat) : Int) = n by omega, show ((x.toNat : Nat) : Int) = x by omega] at h
  rw [h]; omega
theorem mask_hi {n : Int} (hn : 0 ≤ n ∧ n ≤ 16) : Int.fdiv (mask n) (2 ^ n.toNat) = 0 := by
  have h := (mask_table ⟨n.toNat, by omega⟩).2
  dsimp only at h
  rwa [show ((n.toNat : Nat) : Int) = n by omega] at h
theorem bit_andNot (a b : Int) {x : Int} (h0 : 0 ≤ x) (h1 : x < 16) : bit (bitsOf .andNot .u16 a b) x = 1 ↔ bit a x = 1 ∧ ¬ bit b x = 1 := by
  obtain ⟨k, rfl⟩ := Int.eq_ofNat_of_zero_le h0
  have e : bitsOf .andNot .u16 a b = IntKind.u16.wrap (((BitVec.ofInt 16 a &&& ~~~(BitVec.ofInt 16 b)).toNat : Nat) : Int) := rfl
  have hk : k < 16 := by omega
  rw [bit_lsb _ hk, bit_lsb _ hk, bit_lsb _ hk, e, ofInt_wrap, BitVec.getLsbD_and, BitVec.getLsbD_not, Bool.and_eq_true, Bool.and_eq_true, decide_eq_true_eq, Bool.not_eq_true']
  simp [hk]
theorem andNot_nat (a b : Int) : ∃ m : Nat, bitsOf .andNot .u16 a b = (m : Int) ∧ (0 ≤ a → a < 65536 → (m : Int) ≤ a) := by
  have e : bitsOf .andNot .u16 a b = IntKind.u16.wrap (((BitVec.ofInt 16 a &&& ~~~(BitVec.ofInt 16 b)).toNat : Nat) : Int) := rfl
  have hl := (BitVec.ofInt 16 a &&& ~~~(BitVec.ofInt 16 b)).isLt
  refine ⟨(BitVec.ofInt 16 a &&& ~~~(BitVec.ofInt 16 b)).toNat, ?_, fun h0 h1 => ?_⟩
  · rw [e]
    show (((BitVec.ofInt 16 a &&& ~~~(BitVec.ofInt 16 b)).toNat : Nat) : Int) % 65536 = _
    omega
  · rw [BitVec.toNat_and]
    have := Nat.and_le_left (n := (BitVec.ofInt 16 a).toNat) (m := (~~~(BitVec.ofInt 16 b)).toNat)
    have e2 : (BitVec.ofInt 16 a).toNat = a.toNat := by rw [BitVec.toNat_ofInt]; omega
    omega
theorem hi_andNot {a b : Int} {k : Nat} (hk : k ≤ 16) (ha : Int.fdiv a (2 ^ k) = 0) : Int.fdiv (bitsOf .andNot .u16 a b) (2 ^ k) = 0 := by
  rw [fdiv_zero] at ha ⊢
  have := pow_le16 hk
  obtain ⟨m, e, h⟩ := andNot_nat a b
  have := h ha.1 (by omega)
  omega
/-- sets are alike where their bits are -/
theorem bits_ext {a b : Int} {n : Nat} (hn : n ≤ 16) (ha : Int.fdiv a (2 ^ n) = 0) (hb : Int.fdiv b (2 ^ n) = 0) (h : ∀ x : Int, 0 ≤ x → x < n → (bit a x = 1 ↔ bit b x = 1)) : a = b := by
  rw [fdiv_zero] at ha hb
  have hp := pow_le16 hn
  have e : ((2 ^ n : Nat) : Int) = 2 ^ n := by simp
  have key : a.toNat = b.toNat := Nat.eq_of_testBit_eq fun i => by
    by_cases hi : i < n
    · have h2 := h (i : Int) (by omega) (by omega)
      rw [bit_lsb a (by omega), bit_lsb b (by omega), BitVec.getLsbD, BitVec.getLsbD, BitVec.toNat_ofInt, BitVec.toNat_ofInt, show (a % ((2 ^ 16 : Nat) : Int)).toNat = a.toNat by omega, show (b % ((2 ^ 16 : Nat) : Int)).toNat = b.toNat by omega] at h2
      cases h3 : a.toNat.testBit i <;> cases h4 : b.toNat.testBit i <;> simp [h3, h4] at h2 ⊢
    · have hle : (2 : Nat) ^ n ≤ 2 ^ i := Nat.pow_le_pow_right (by decide) (by omega)
      rw [Nat.testBit_lt_two_pow (by omega), Nat.testBit_lt_two_pow (by omega)]
  omega
end Go.Proofs.Ytlpelkfcmeapiaa
