/- Sides of a net: what two have in common, and together, take no more than both. -/
import Derived.Test.YtclaacfebgigiaaPcut
namespace Go.Proofs.Ytclaacfebgigiaa
open Go Go.Proofs.Ytclaacfebgigiaa.Sx
set_option linter.unusedVariables false
set_option linter.unusedSimpArgs false
theorem bit_and_eq (a b : Int) {x : Int} (h0 : 0 ≤ x) (h1 : x < 16) : bit (bitsOf .and .u16 a b) x = if bit a x = 1 ∧ bit b x = 1 then 1 else 0 := by
  have := bit_and a b h0 h1
  split
  · rename_i h; exact this.2 h
  · rename_i h; exact (bit01 _ _).resolve_right fun e => h (this.1 e)
theorem bit_or_eq (a b : Int) {x : Int} (h0 : 0 ≤ x) (h1 : x < 16) : bit (bitsOf .or .u16 a b) x = if bit a x = 1 ∨ bit b x = 1 then 1 else 0 := by
  have := bit_or a b h0 h1
  split
  · rename_i h; exact this.2 h
  · rename_i h; exact (bit01 _ _).resolve_right fun e => h (this.1 e)
theorem sub_term {c af at' bf bt : Int} (hc : 0 ≤ c) (h1 : af = 0 ∨ af = 1) (h2 : at' = 0 ∨ at' = 1) (h3 : bf = 0 ∨ bf = 1) (h4 : bt = 0 ∨ bt = 1) :
    (if (if af = 1 ∧ bf = 1 then (1 : Int) else 0) = 1 ∧ (if at' = 1 ∧ bt = 1 then (1 : Int) else 0) = 0 then c else 0) + (if (if af = 1 ∨ bf = 1 then (1 : Int) else 0) = 1 ∧ (if at' = 1 ∨ bt = 1 then (1 : Int) else 0) = 0 then c else 0) ≤
    (if af = 1 ∧ at' = 0 then c else 0) + (if bf = 1 ∧ bt = 0 then c else 0) := by
  rcases h1 with rfl | rfl <;> rcases h2 with rfl | rfl <;> rcases h3 with rfl | rfl <;> rcases h4 with rfl | rfl <;> simp <;> omega
theorem side_and {n : Net} {a b : Int} (ha : Side n a) (hb : Side n b) : Side n (bitsOf .and .u16 a b) := by
  have hn := ha.net
  have s0 := hn.s0; have s1 := hn.s1; have t0 := hn.t0; have t1 := hn.t1; have n1 := hn.g.n1
  dsimp only at n1
  refine ⟨hn, hi_and (by omega) ha.hi hb.hi, (bit_and a b s0 (by omega)).2 ⟨ha.s, hb.s⟩, ?_⟩
  rw [bit_and_eq a b t0 (by omega), if_neg (fun h => by have := ha.t; omega)]
theorem side_or {n : Net} {a b : Int} (ha : Side n a) (hb : Side n b) : Side n (bitsOf .or .u16 a b) := by
  have hn := ha.net
  have s0 := hn.s0; have s1 := hn.s1; have t0 := hn.t0; have t1 := hn.t1; have n1 := hn.g.n1
  dsimp only at n1
  refine ⟨hn, hi_or (by omega) ha.hi hb.hi, (bit_or a b s0 (by omega)).2 (.inl ha.s), ?_⟩
  rw [bit_or_eq a b t0 (by omega), if_neg (fun h => by have := ha.t; have := hb.t; omega)]
theorem submod {n : Net} (hn : OkNet n) (a b : Int) : capS n.as (bit (bitsOf .and .u16 a b)) + capS n.as (bit (bitsOf .or .u16 a b)) ≤ capS n.as (bit a) + capS n.as (bit b) := by
  unfold capS
  rw [← tot_add, ← tot_add]
  refine tot_le fun k hk => ?_
  have hG := hn.small hk
  unfold cross
  rw [bit_and_eq a b (by omega) (by omega), bit_and_eq a b (by omega) (by omega), bit_or_eq a b (by omega) (by omega), bit_or_eq a b (by omega) (by omega)]
  exact sub_term (hn.arc hk).c0 (bit01 _ _) (bit01 _ _) (bit01 _ _) (bit01 _ _)
theorem cap_small {n : Net} (hn : OkNet n) (S : Int → Int) : 0 ≤ capS n.as S ∧ capS n.as S ≤ 600000 := by
  have hlen := hn.g.len
  dsimp only at hlen
  have each : ∀ k, k < n.as.length → 0 ≤ cross n.as S k ∧ cross n.as S k ≤ 10000 := fun k hk => by
    have := (hn.arc hk).c0; have := (hn.arc hk).c1
    unfold cross; split <;> omega
  have h1 := tot_nonneg fun k hk => (each k hk).1
  have h2 := (tot_abs (f := cross n.as S) (M := 10000) (n := n.as.length) fun k hk => ⟨by have := (each k hk).1; omega, (each k hk).2⟩).2
  unfold capS
  omega
end Go.Proofs.Ytclaacfebgigiaa
