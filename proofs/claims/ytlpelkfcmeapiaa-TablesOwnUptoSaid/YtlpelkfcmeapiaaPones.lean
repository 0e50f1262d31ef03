/- How many ones a number of 16 bits has. -/
import Derived.Test.YtlpelkfcmeapiaaPbits
import Derived.Test.YtlpelkfcmeapiaaPlA
namespace Go.Proofs.Ytlpelkfcmeapiaa
open Go Go.Proofs.Ytlpelkfcmeapiaa.Sx
set_option linter.unusedVariables false
set_option linter.unusedSimpArgs false
theorem and1_64 (y : Int) : bitsOf .and .i64 y 1 = y % 2 := by
  have e : bitsOf .and .i64 y 1 = IntKind.i64.wrap (((BitVec.ofInt 64 y &&& BitVec.ofInt 64 1).toNat : Nat) : Int) := rfl
  rw [e, BitVec.toNat_and, show (BitVec.ofInt 64 1).toNat = 1 from by decide, Nat.and_one_is_mod]
  have h : (BitVec.ofInt 64 y).toNat % 2 = (y % 2).toNat := by
    rw [BitVec.toNat_ofInt]; omega
  rw [h]
  rcases (by omega : y % 2 = 0 ∨ y % 2 = 1) with h | h <;> rw [h] <;> decide
theorem bit_64 (x : Int) {k : Nat} (hk : k < 16) : bitsOf .and .i64 (Int.fdiv x (2 ^ min k 64)) 1 = bit x (k : Int) := by
  unfold bit
  rw [and1, and1_64, Int.toNat_natCast, Nat.min_eq_left (by omega), Nat.min_eq_left (by omega)]
/-- how many ones -/
def onesG (x : Int) : Int := tot (fun k => bit x (k : Int)) 16
theorem u16_rng (z : Int) : 0 ≤ IntKind.u16.wrap z ∧ IntKind.u16.wrap z < 65536 := by
  unfold IntKind.wrap
  have h3 : (2 : Int) ^ 16 = 65536 := by decide
  simp only [IntKind.bits, IntKind.signed, Bool.false_and, Bool.false_eq_true, if_false, h3]
  omega
theorem i64_small {z : Int} (h0 : 0 ≤ z) (h1 : z < 65536) : IntKind.i64.wrap z = z := by
  unfold IntKind.wrap
  have h2 : (2 : Int) ^ (64 - 1) = 9223372036854775808 := by decide
  have h3 : (2 : Int) ^ 64 = 18446744073709551616 := by decide
  simp only [IntKind.bits, IntKind.signed, Bool.true_and, decide_eq_true_eq, h2, h3]
  split <;> omega
theorem and_rng (a b : Int) : 0 ≤ bitsOf .and .u16 a b ∧ bitsOf .and .u16 a b < 65536 := u16_rng _
theorem bit_wrap64 (x : Int) {k : Nat} (hk : k < 16) : bit (IntKind.i64.wrap x) (k : Int) = bit x (k : Int) := by
  obtain ⟨c, hc⟩ : ∃ c : Int, IntKind.i64.wrap x = x + 18446744073709551616 * c := by
    unfold IntKind.wrap
    have h2 : (2 : Int) ^ (64 - 1) = 9223372036854775808 := by decide
    have h3 : (2 : Int) ^ 64 = 18446744073709551616 := by decide
    simp only [IntKind.bits, IntKind.signed, Bool.true_and, decide_eq_true_eq, h2, h3]
    have h := Int.emod_add_mul_ediv x 18446744073709551616
    split
    · exact ⟨-(x / 18446744073709551616) - 1, by omega⟩
    · exact ⟨-(x / 18446744073709551616), by omega⟩
  unfold bit
  rw [and1, and1, Int.toNat_natCast, Nat.min_eq_left (by omega), hc, Int.fdiv_eq_ediv_of_nonneg _ (Int.le_of_lt (Int.pow_pos (by decide))), Int.fdiv_eq_ediv_of_nonneg _ (Int.le_of_lt (Int.pow_pos (by decide)))]
  match k, hk with
  | 0, _ => show (x + 18446744073709551616 * c) / 1 % 2 = x / 1 % 2; omega
  | 1, _ => show (x + 18446744073709551616 * c) / 2 % 2 = x / 2 % 2; omega
  | 2, _ => show (x + 18446744073709551616 * c) / 4 % 2 = x / 4 % 2; omega
  | 3, _ => show (x + 18446744073709551616 * c) / 8 % 2 = x / 8 % 2; omega
  | 4, _ => show (x + 18446744073709551616 * c) / 16 % 2 = x / 16 % 2; omega
  | 5, _ => show (x + 18446744073709551616 * c) / 32 % 2 = x / 32 % 2; omega
  | 6, _ => show (x + 18446744073709551616 * c) / 64 % 2 = x / 64 % 2; omega
  | 7, _ => show (x + 18446744073709551616 * c) / 128 % 2 = x / 128 % 2; omega
  | 8, _ => show (x + 18446744073709551616 * c) / 256 % 2 = x / 256 % 2; omega
  | 9, _ => show (x + 18446744073709551616 * c) / 512 % 2 = x / 512 % 2; omega
  | 10, _ => show (x + 18446744073709551616 * c) / 1024 % 2 = x / 1024 % 2; omega
  | 11, _ => show (x + 18446744073709551616 * c) / 2048 % 2 = x / 2048 % 2; omega
  | 12, _ => show (x + 18446744073709551616 * c) / 4096 % 2 = x / 4096 % 2; omega
  | 13, _ => show (x + 18446744073709551616 * c) / 8192 % 2 = x / 8192 % 2; omega
  | 14, _ => show (x + 18446744073709551616 * c) / 16384 % 2 = x / 16384 % 2; omega
  | 15, _ => show (x + 18446744073709551616 * c) / 32768 % 2 = x / 32768 % 2; omega
  | k + 16, h => omega
theorem onesG_b (x : Int) : 0 ≤ onesG x ∧ onesG x ≤ 16 := by
  unfold onesG
  have h1 := tot_nonneg (f := fun k => bit x (k : Int)) (n := 16) fun k _ => by have := bit01 x (k : Int); omega
  have h2 := tot_le (f := fun k => bit x (k : Int)) (g := fun _ => 1) (n := 16) fun k _ => by have := bit01 x (k : Int); omega
  rw [tot_const] at h2
  omega
end Go.Proofs.Ytlpelkfcmeapiaa
