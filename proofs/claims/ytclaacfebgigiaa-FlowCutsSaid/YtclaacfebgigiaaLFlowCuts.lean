/- FlowCuts: the law's function answers true. -/
import Derived.Test.YtclaacfebgigiaaPflow
import Derived.Test.YtclaacfebgigiaaKFlowCuts
namespace Go.Proofs.Ytclaacfebgigiaa
open Go Go.Proofs.Ytclaacfebgigiaa.Sx
set_option linter.unusedVariables false
set_option linter.unusedSimpArgs false
theorem flowsC_eq : weirkeep_flows_F = some true := by kernel_rfl
theorem bit01 (y : Int) : bitsOf .and .u16 y 1 = 0 ∨ bitsOf .and .u16 y 1 = 1 := by
  have e : bitsOf .and .u16 y 1 = IntKind.u16.wrap (((BitVec.ofInt 16 y &&& BitVec.ofInt 16 1).toNat : Nat) : Int) := rfl
  rw [e, BitVec.toNat_and, show (BitVec.ofInt 16 1).toNat = 1 from by decide, Nat.and_one_is_mod]
  rcases Nat.mod_two_eq_zero_or_one (BitVec.ofInt 16 y).toNat with h | h <;> rw [h]
  · left; decide
  · right; decide
def sideAt (side x : Int) : Int := IntKind.i64.wrap (bitsOf .and .u16 (Int.fdiv side (2 ^ min x.toNat 16)) 1)
theorem side_0 {side x : Int} (h : ¬ bitsOf .and .u16 (Int.fdiv side (2 ^ min x.toNat 16)) 1 = 1) : sideAt side x = 0 := by
  unfold sideAt
  rw [(bit01 _).resolve_right h]; decide
theorem side_1 {side x : Int} (h : ¬ bitsOf .and .u16 (Int.fdiv side (2 ^ min x.toNat 16)) 1 = 0) : sideAt side x = 1 := by
  unfold sideAt
  rw [(bit01 _).resolve_left h]; decide
theorem side01 (side x : Int) : sideAt side x = 0 ∨ sideAt side x = 1 := by
  unfold sideAt
  rcases bit01 (Int.fdiv side (2 ^ min x.toNat 16)) with h | h <;> rw [h]
  · left; decide
  · right; decide
theorem cut_small {v a b : Int} (h0 : 0 ≤ v) (h1 : v ≤ 10000) (ha : a = 0 ∨ a = 1) (hb : b = 0 ∨ b = 1) : (-1 ≤ a - b ∧ a - b ≤ 1) ∧ -10000 ≤ v * (a - b) ∧ v * (a - b) ≤ 10000 := by
  rcases ha with rfl | rfl <;> rcases hb with rfl | rfl <;> omega
theorem FlowCuts_true (n : Net) (f : List Int) (side : Int) : weirkeep_FlowCuts_F n f side = some true := by
  unfold weirkeep_FlowCuts_F
  rw [flowsC_eq, bind_some', if_neg (by decide)]
  by_cases h : Flow n f
  · have lf := h.len; have hlen := h.net.g.len; have hn := h.net
    dsimp only at hlen
    rw [value_ok h, bind_some']
    dsimp only
    rw [if_neg (by decide), if_neg (by omega), ck_some hn.s0]
    by_cases hs : bitsOf .and .u16 (Int.fdiv side (2 ^ min n.s.toNat 16)) 1 = 0
    · rw [if_pos hs]; exact congrArg some (decide_eq_true (by omega))
    rw [if_neg hs, ck_some hn.t0]
    by_cases ht : bitsOf .and .u16 (Int.fdiv side (2 ^ min n.t.toNat 16)) 1 = 1
    · rw [if_pos ht]; exact congrArg some (decide_eq_true (by omega))
    rw [if_neg ht]
    have each : ∀ k, k < n.as.length → (-1 ≤ sideAt side (n.as.getD k El.d).f - sideAt side (n.as.getD k El.d).t ∧ sideAt side (n.as.getD k El.d).f - sideAt side (n.as.getD k El.d).t ≤ 1) ∧ -10000 ≤ f.getD k 0 * (sideAt side (n.as.getD k El.d).f - sideAt side (n.as.getD k El.d).t) ∧ f.getD k 0 * (sideAt side (n.as.getD k El.d).f - sideAt side (n.as.getD k El.d).t) ≤ 10000 := fun k hk => by
      have := h.r k (by omega)
      have := (hn.arc hk).c1
      exact cut_small (by omega) (by omega) (side01 _ _) (side01 _ _)
    obtain ⟨x, h2, h3⟩ := forN_inv (f := weirkeep_FlowCuts_B1 n f side) (fun j x => x = tot (fun k => f.getD k 0 * (sideAt side (n.as.getD k El.d).f - sideAt side (n.as.getD k El.d).t)) j) (n := n.as.length) (k := 0) (s := 0) rfl fun j x _ hj hx => by
      have hj' : j < n.as.length := by omega
      have hb := tot_abs (f := fun k => f.getD k 0 * (sideAt side (n.as.getD k El.d).f - sideAt side (n.as.getD k El.d).t)) (M := 10000) (n := j) fun i hi => (each i (by omega)).2
      rw [← hx] at hb
      have hG := hn.small hj'
      have e := each j hj'
      refine ⟨_, ?_, rfl⟩
      rw [tot, ← hx]
      unfold weirkeep_FlowCuts_B1
      show ck _ (ck _ (ck _ (ck (InI (sideAt side (n.as.getD j El.d).f - sideAt side (n.as.getD j El.d).t)) (ck (InI (f.getD j 0 * (sideAt side (n.as.getD j El.d).f - sideAt side (n.as.getD j El.d).t))) (ck (InI (x + f.getD j 0 * (sideAt side (n.as.getD j El.d).f - sideAt side (n.as.getD j El.d).t))) (some (x + f.getD j 0 * (sideAt side (n.as.getD j El.d).f - sideAt side (n.as.getD j El.d).t)))))))) = _
      rw [ck_some (by omega), ck_some (by omega), ck_some (by omega), ck_some (inI_small (by omega) (by omega)), ck_some (inI_small (by omega) (by omega)), ck_some (inI_small (by omega) (by omega))]
    rw [h2, bind_some', h3, Nat.zero_add, h.sides (sideAt side), side_1 hs, side_0 ht]
    exact congrArg some (decide_eq_true (by omega))
  · obtain ⟨e, he, h1⟩ := value_bad h
    rw [h1, bind_some']
    dsimp only
    rw [if_pos he]; rfl
end Go.Proofs.Ytclaacfebgigiaa
