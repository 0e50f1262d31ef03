/- CutSub: the law's function answers true. -/
import Derived.Test.YtclaacfebgigiaaPcut
import Derived.Test.YtclaacfebgigiaaKCutSub
namespace Go.Proofs.Ytclaacfebgigiaa
open Go Go.Proofs.Ytclaacfebgigiaa.Sx
set_option linter.unusedVariables false
set_option linter.unusedSimpArgs false
theorem bit_and_eq (a b : Int) {x : Int} (h0 : 0 ≤ x) (h1 : x < 16) : bit (bitsOf .and .u16 a b) x = if bit a x = 1 ∧ bit b x = 1 then 1 else 0 := by
  have := bit_and a b h0 h1
  split
  · rename_i h; exact this.2 h
  · rename_i h; exact (bit01 _ _).resolve_right fun e => h (this.1 e)
theorem bit_or_eq (a b : Int) {x : Int} (h0 : 0 ≤ x) (h1 : x < 16) : bit (bitsOf .or .u16 a b) x = if bit a x = 1 ∨ bit b x = 1 then 1 else 0 := by
  have := bit_or a b h0 h1
  split
  · rename_i h; exact this.2 h
  · rename_i h; exact (bit01 _ _).resolve_right fun e => h (this.1 e)
theorem sub_term {c af at' bf bt : Int} (hc : 0 ≤ c) (h1 : af = 0 ∨ af = 1) (h2 : at' = 0 ∨ at' = 1) (h3 : bf = 0 ∨ bf = 1) (h4 : bt = 0 ∨ bt = 1) :
    (if (if af = 1 ∧ bf = 1 then (1 : Int) else 0) = 1 ∧ (if at' = 1 ∧ bt = 1 then (1 : Int) else 0) = 0 then c else 0) + (if (if af = 1 ∨ bf = 1 then (1 : Int) else 0) = 1 ∧ (if at' = 1 ∨ bt = 1 then (1 : Int) else 0) = 0 then c else 0) ≤
    (if af = 1 ∧ at' = 0 then c else 0) + (if bf = 1 ∧ bt = 0 then c else 0) := by
  rcases h1 with rfl | rfl <;> rcases h2 with rfl | rfl <;> rcases h3 with rfl | rfl <;> rcases h4 with rfl | rfl <;> simp <;> omega
theorem side_and {n : Net} {a b : Int} (ha : Side n a) (hb : Side n b) : Side n (bitsOf .and .u16 a b) := by
  have hn := ha.net
  have s0 := hn.s0; have s1 := hn.s1; have t0 := hn.t0; have t1 := hn.t1; have n1 := hn.g.n1
  dsimp only at n1
  refine ⟨hn, hi_and (by omega) ha.hi hb.hi, (bit_and a b s0 (by omega)).2 ⟨ha.s, hb.s⟩, ?_⟩
  rw [bit_and_eq a b t0 (by omega), if_neg (fun h => by have := ha.t; omega)]
theorem side_or {n : Net} {a b : Int} (ha : Side n a) (hb : Side n b) : Side n (bitsOf .or .u16 a b) := by
  have hn := ha.net
  have s0 := hn.s0; have s1 := hn.s1; have t0 := hn.t0; have t1 := hn.t1; have n1 := hn.g.n1
  dsimp only at n1
  refine ⟨hn, hi_or (by omega) ha.hi hb.hi, (bit_or a b s0 (by omega)).2 (.inl ha.s), ?_⟩
  rw [bit_or_eq a b t0 (by omega), if_neg (fun h => by have := ha.t; have := hb.t; omega)]
theorem submod {n : Net} (hn : OkNet n) (a b : Int) : capS n.as (bit (bitsOf .and .u16 a b)) + capS n.as (bit (bitsOf .or .u16 a b)) ≤ capS n.as (bit a) + capS n.as (bit b) := by
  unfold capS
  rw [← tot_add, ← tot_add]
  refine tot_le fun k hk => ?_
  have hG := hn.small hk
  unfold cross
  rw [bit_and_eq a b (by omega) (by omega), bit_and_eq a b (by omega) (by omega), bit_or_eq a b (by omega) (by omega), bit_or_eq a b (by omega) (by omega)]
  exact sub_term (hn.arc hk).c0 (bit01 _ _) (bit01 _ _) (bit01 _ _) (bit01 _ _)
theorem cap_small {n : Net} (hn : OkNet n) (S : Int → Int) : 0 ≤ capS n.as S ∧ capS n.as S ≤ 600000 := by
  have hlen := hn.g.len
  dsimp only at hlen
  have each : ∀ k, k < n.as.length → 0 ≤ cross n.as S k ∧ cross n.as S k ≤ 10000 := fun k hk => by
    have := (hn.arc hk).c0; have := (hn.arc hk).c1
    unfold cross; split <;> omega
  have h1 := tot_nonneg fun k hk => (each k hk).1
  have h2 := (tot_abs (f := cross n.as S) (M := 10000) (n := n.as.length) fun k hk => ⟨by have := (each k hk).1; omega, (each k hk).2⟩).2
  unfold capS
  omega
theorem CutSub_true (n : Net) (a b : Int) : weirkeep_CutSub_F n a b = some true := by
  unfold weirkeep_CutSub_F
  rw [cuts_eq, bind_some', if_neg (by decide)]
  have rest : ∀ s : Int, ∃ x y, cut_Cap_F n s = some (x, y) := fun s => by
    rcases cap_cases n s with ⟨_, e⟩ | ⟨_, y, _, e⟩
    · exact ⟨_, _, e⟩
    · exact ⟨_, _, e⟩
  by_cases ha : Side n a
  · by_cases hb : Side n b
    · have hn := ha.net
      rw [cap_ok ha, bind_some']
      dsimp only
      rw [cap_ok hb, bind_some']
      dsimp only
      rw [cap_ok (side_and ha hb), bind_some']
      dsimp only
      rw [cap_ok (side_or ha hb), bind_some']
      dsimp only
      have q1 := cap_small hn (bit a); have q2 := cap_small hn (bit b); have q3 := cap_small hn (bit (bitsOf .and .u16 a b)); have q4 := cap_small hn (bit (bitsOf .or .u16 a b))
      rw [if_neg (by decide), if_neg (by decide), if_pos rfl, if_pos rfl, ck_some (inI_small (by omega) (by omega)), ck_some (inI_small (by omega) (by omega))]
      exact congrArg some (decide_eq_true (submod hn a b))
    · obtain ⟨y, hy, e⟩ := cap_bad hb
      obtain ⟨x3, y3, e3⟩ := rest (bitsOf .and .u16 a b)
      obtain ⟨x4, y4, e4⟩ := rest (bitsOf .or .u16 a b)
      rw [cap_ok ha, bind_some']
      dsimp only
      rw [e, bind_some']
      dsimp only
      rw [e3, bind_some']
      dsimp only
      rw [e4, bind_some']
      dsimp only
      rw [if_neg (by decide), if_pos hy]
  · obtain ⟨y, hy, e⟩ := cap_bad ha
    obtain ⟨x2, y2, e2⟩ := rest b
    obtain ⟨x3, y3, e3⟩ := rest (bitsOf .and .u16 a b)
    obtain ⟨x4, y4, e4⟩ := rest (bitsOf .or .u16 a b)
    rw [e, bind_some']
    dsimp only
    rw [e2, bind_some']
    dsimp only
    rw [e3, bind_some']
    dsimp only
    rw [e4, bind_some']
    dsimp only
    rw [if_pos hy]
end Go.Proofs.Ytclaacfebgigiaa
