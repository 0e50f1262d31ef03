/- Sets of nodes told by the bits of a number. -/
import Derived.Test.YtclaacfebgigiaaPlA
namespace Go.Proofs.Ytclaacfebgigiaa
open Go Go.Proofs.Ytclaacfebgigiaa.Sx
set_option linter.unusedVariables false
set_option linter.unusedSimpArgs false
/-- the bit of x -/
@[reducible] def bit (side x : Int) : Int := bitsOf .and .u16 (Int.fdiv side (2 ^ min x.toNat 16)) 1
theorem bit_fold (side x : Int) : bitsOf .and .u16 (Int.fdiv side (2 ^ min x.toNat 16)) 1 = bit side x := rfl
theorem and1 (y : Int) : bitsOf .and .u16 y 1 = y % 2 := by
  have e : bitsOf .and .u16 y 1 = IntKind.u16.wrap (((BitVec.ofInt 16 y &&& BitVec.ofInt 16 1).toNat : Nat) : Int) := rfl
  rw [e, BitVec.toNat_and, show (BitVec.ofInt 16 1).toNat = 1 from by decide, Nat.and_one_is_mod]
  have h : (BitVec.ofInt 16 y).toNat % 2 = (y % 2).toNat := by
    rw [BitVec.toNat_ofInt]; omega
  rw [h]
  rcases (by omega : y % 2 = 0 ∨ y % 2 = 1) with h | h <;> rw [h] <;> decide
theorem bit01 (side x : Int) : bit side x = 0 ∨ bit side x = 1 := by
  unfold bit
  rw [and1]
  omega
theorem bit_lsb (a : Int) {x : Nat} (hx : x < 16) : (bit a (x : Int) = 1) = ((BitVec.ofInt 16 a).getLsbD x = true) := by
  unfold bit
  rw [and1, BitVec.getLsbD, BitVec.toNat_ofInt, Nat.testBit_eq_decide_div_mod_eq, decide_eq_true_eq, Int.toNat_natCast]
  rcases (by omega : x = 0 ∨ x = 1 ∨ x = 2 ∨ x = 3 ∨ x = 4 ∨ x = 5 ∨ x = 6 ∨ x = 7 ∨ x = 8 ∨ x = 9 ∨ x = 10 ∨ x = 11 ∨ x = 12 ∨ x = 13 ∨ x = 14 ∨ x = 15) with
    rfl | rfl | rfl | rfl | rfl | rfl | rfl | rfl | rfl | rfl | rfl | rfl | rfl | rfl | rfl | rfl <;> simp only [Nat.reducePow, Nat.min_def, Nat.reduceLeDiff, if_true, Int.reducePow] <;> (apply propext; rw [Int.fdiv_eq_ediv_of_nonneg _ (by decide)]; omega)
theorem ofInt_wrap (v : BitVec 16) : BitVec.ofInt 16 (IntKind.u16.wrap ((v.toNat : Nat) : Int)) = v := by
  have h : IntKind.u16.wrap ((v.toNat : Nat) : Int) = ((v.toNat : Nat) : Int) := by
    have := v.isLt
    show ((v.toNat : Nat) : Int) % 65536 = _
    omega
  rw [h, BitVec.ofInt_natCast, BitVec.ofNat_toNat, BitVec.setWidth_eq]
theorem bit_and (a b : Int) {x : Int} (h0 : 0 ≤ x) (h1 : x < 16) : bit (bitsOf .and .u16 a b) x = 1 ↔ bit a x = 1 ∧ bit b x = 1 := by
  obtain ⟨k, rfl⟩ := Int.eq_ofNat_of_zero_le h0
  have e : bitsOf .and .u16 a b = IntKind.u16.wrap (((BitVec.ofInt 16 a &&& BitVec.ofInt 16 b).toNat : Nat) : Int) := rfl
  rw [bit_lsb _ (by omega), bit_lsb _ (by omega), bit_lsb _ (by omega), e, ofInt_wrap, BitVec.getLsbD_and, Bool.and_eq_true]
theorem bit_or (a b : Int) {x : Int} (h0 : 0 ≤ x) (h1 : x < 16) : bit (bitsOf .or .u16 a b) x = 1 ↔ bit a x = 1 ∨ bit b x = 1 := by
  obtain ⟨k, rfl⟩ := Int.eq_ofNat_of_zero_le h0
  have e : bitsOf .or .u16 a b = IntKind.u16.wrap (((BitVec.ofInt 16 a ||| BitVec.ofInt 16 b).toNat : Nat) : Int) := rfl
  rw [bit_lsb _ (by omega), bit_lsb _ (by omega), bit_lsb _ (by omega), e, ofInt_wrap, BitVec.getLsbD_or, Bool.or_eq_true]
theorem and_nat {a b : Int} (ha : 0 ≤ a ∧ a < 65536) (hb : 0 ≤ b ∧ b < 65536) : bitsOf .and .u16 a b = ((a.toNat &&& b.toNat : Nat) : Int) := by
  have e : bitsOf .and .u16 a b = IntKind.u16.wrap (((BitVec.ofInt 16 a &&& BitVec.ofInt 16 b).toNat : Nat) : Int) := rfl
  rw [e, BitVec.toNat_and, BitVec.toNat_ofInt, BitVec.toNat_ofInt, show (a % ((2 ^ 16 : Nat) : Int)).toNat = a.toNat by omega, show (b % ((2 ^ 16 : Nat) : Int)).toNat = b.toNat by omega]
  have := Nat.and_le_left (n := a.toNat) (m := b.toNat)
  show ((a.toNat &&& b.toNat : Nat) : Int) % 65536 = _
  omega
theorem or_nat {a b : Int} (ha : 0 ≤ a ∧ a < 65536) (hb : 0 ≤ b ∧ b < 65536) : bitsOf .or .u16 a b = ((a.toNat ||| b.toNat : Nat) : Int) := by
  have e : bitsOf .or .u16 a b = IntKind.u16.wrap (((BitVec.ofInt 16 a ||| BitVec.ofInt 16 b).toNat : Nat) : Int) := rfl
  rw [e, BitVec.toNat_or, BitVec.toNat_ofInt, BitVec.toNat_ofInt, show (a % ((2 ^ 16 : Nat) : Int)).toNat = a.toNat by omega, show (b % ((2 ^ 16 : Nat) : Int)).toNat = b.toNat by omega]
  have := Nat.or_lt_two_pow (n := 16) (x := a.toNat) (y := b.toNat) (by omega) (by omega)
  show ((a.toNat ||| b.toNat : Nat) : Int) % 65536 = _
  omega
theorem fdiv_zero {a : Int} {k : Nat} : Int.fdiv a (2 ^ k) = 0 ↔ 0 ≤ a ∧ a < 2 ^ k := by
  have hp : (0 : Int) < 2 ^ k := Int.pow_pos (by decide)
  rw [Int.fdiv_eq_ediv_of_nonneg _ (by omega)]
  constructor
  · intro h
    have h1 := Int.emod_add_mul_ediv a (2 ^ k)
    rw [h, Int.mul_zero, Int.add_zero] at h1
    have := Int.emod_nonneg a (show (2 ^ k : Int) ≠ 0 by omega)
    have := Int.emod_lt_of_pos a hp
    omega
  · rintro ⟨h1, h2⟩
    exact Int.ediv_eq_zero_of_lt h1 h2
theorem pow_le16 {k : Nat} (h : k ≤ 16) : (2 ^ k : Int) ≤ 65536 := by
  have := Nat.pow_le_pow_right (n := 2) (by decide) h
  have e : ((2 ^ k : Nat) : Int) = 2 ^ k := by simp
  omega
theorem hi_and {a b : Int} {k : Nat} (hk : k ≤ 16) (ha : Int.fdiv a (2 ^ k) = 0) (hb : Int.fdiv b (2 ^ k) = 0) : Int.fdiv (bitsOf .and .u16 a b) (2 ^ k) = 0 := by
  rw [fdiv_zero] at ha hb ⊢
  have := pow_le16 hk
  rw [and_nat (by omega) (by omega)]
  have := Nat.and_le_left (n := a.toNat) (m := b.toNat)
  omega
theorem hi_or {a b : Int} {k : Nat} (hk : k ≤ 16) (ha : Int.fdiv a (2 ^ k) = 0) (hb : Int.fdiv b (2 ^ k) = 0) : Int.fdiv (bitsOf .or .u16 a b) (2 ^ k) = 0 := by
  rw [fdiv_zero] at ha hb ⊢
  have := pow_le16 hk
  rw [or_nat (by omega) (by omega)]
  have e : ((2 ^ k : Nat) : Int) = 2 ^ k := by simp
  have := Nat.or_lt_two_pow (n := k) (x := a.toNat) (y := b.toNat) (by omega) (by omega)
  omega
end Go.Proofs.Ytclaacfebgigiaa
