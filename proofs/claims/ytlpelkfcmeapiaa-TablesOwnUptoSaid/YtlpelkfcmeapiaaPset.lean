/- Small sets as numbers below 512: what the operations on bits of an int do. -/
import Derived.Test.YtlpelkfcmeapiaaPlB
namespace Go.Proofs.Ytlpelkfcmeapiaa
open Go Go.Proofs.Ytlpelkfcmeapiaa.Sx
set_option linter.unusedVariables false
set_option linter.unusedSimpArgs false
/-- k stands in the set -/
def inS (set k : Nat) : Bool := set / 2 ^ k % 2 == 1
/-- the set without k -/
def dropS (set k : Nat) : Nat := if inS set k = true then set - 2 ^ k else set
theorem bitS_table : ∀ set : Fin 512, ∀ k : Fin 9, bitsOf .and .i64 (Int.fdiv ((set.val : Nat) : Int) (2 ^ min k.val 64)) 1 = if inS set.val k.val = true then 1 else 0 := by decide +kernel
theorem bitS {set k : Nat} (hs : set < 512) (hk : k < 9) : bitsOf .and .i64 (Int.fdiv ((set : Nat) : Int) (2 ^ min k 64)) 1 = if inS set k = true then 1 else 0 := bitS_table ⟨set, hs⟩ ⟨k, hk⟩
theorem dropS_table : ∀ set : Fin 512, ∀ k : Fin 9, bitsOf .andNot .i64 ((set.val : Nat) : Int) (IntKind.i64.wrap (1 * 2 ^ min k.val 64)) = ((dropS set.val k.val : Nat) : Int) := by decide +kernel
theorem dropS_eq {set k : Nat} (hs : set < 512) (hk : k < 9) : bitsOf .andNot .i64 ((set : Nat) : Int) (IntKind.i64.wrap (1 * 2 ^ min k 64)) = ((dropS set k : Nat) : Int) := dropS_table ⟨set, hs⟩ ⟨k, hk⟩
theorem dropS_le (set k : Nat) : dropS set k ≤ set := by
  unfold dropS
  split
  · exact Nat.sub_le _ _
  · exact Nat.le_refl _
theorem inDrop_table : ∀ set : Fin 512, ∀ k j : Fin 9, inS (dropS set.val k.val) j.val = (inS set.val j.val && decide (j.val ≠ k.val)) := by decide +kernel
theorem inDrop {set k j : Nat} (hs : set < 512) (hk : k < 9) (hj : j < 9) : inS (dropS set k) j = (inS set j && decide (j ≠ k)) := inDrop_table ⟨set, hs⟩ ⟨k, hk⟩ ⟨j, hj⟩
theorem dropS_lt {set k : Nat} (h : inS set k = true) : dropS set k < set := by
  unfold dropS
  rw [if_pos h]
  have hp : 0 < 2 ^ k := Nat.pow_pos (by decide)
  have h1 : set / 2 ^ k % 2 = 1 := by unfold inS at h; simpa using h
  have : 0 < set / 2 ^ k := by
    rcases Nat.eq_zero_or_pos (set / 2 ^ k) with e | e
    · rw [e] at h1; simp at h1
    · exact e
  have := (Nat.div_pos_iff.1 this).2
  omega
/-- two taken out at once -/
theorem drop2_table : ∀ set : Fin 512, ∀ k j : Fin 9, bitsOf .andNot .i64 ((set.val : Nat) : Int) (bitsOf .or .i64 (IntKind.i64.wrap (1 * 2 ^ min k.val 64)) (IntKind.i64.wrap (1 * 2 ^ min j.val 64))) = ((dropS (dropS set.val k.val) j.val : Nat) : Int) := by decide +kernel
theorem drop2_eq {set k j : Nat} (hs : set < 512) (hk : k < 9) (hj : j < 9) : bitsOf .andNot .i64 ((set : Nat) : Int) (bitsOf .or .i64 (IntKind.i64.wrap (1 * 2 ^ min k 64)) (IntKind.i64.wrap (1 * 2 ^ min j 64))) = ((dropS (dropS set k) j : Nat) : Int) := drop2_table ⟨set, hs⟩ ⟨k, hk⟩ ⟨j, hj⟩
end Go.Proofs.Ytlpelkfcmeapiaa
