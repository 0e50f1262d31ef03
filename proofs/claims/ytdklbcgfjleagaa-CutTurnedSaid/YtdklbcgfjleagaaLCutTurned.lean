/- CutTurned: the law's function answers true. -/
import Derived.Test.YtdklbcgfjleagaaPspread
import Derived.Test.YtdklbcgfjleagaaPturn
import Derived.Test.YtdklbcgfjleagaaKCutTurned
namespace Go.Proofs.Ytdklbcgfjleagaa
open Go Go.Proofs.Ytdklbcgfjleagaa.Sx
set_option linter.unusedVariables false
set_option linter.unusedSimpArgs false
theorem least_some (n : Net) : ∃ s v e, cut_Least_F n = some (s, v, e) := by
  by_cases hn : OkNet n
  · obtain ⟨s, v, e, _⟩ := least_ok hn
    exact ⟨_, _, _, e⟩
  · obtain ⟨e, _, _, h⟩ := least_bad hn
    exact ⟨_, _, _, h⟩
theorem minCut_turn {n : Net} {v : Int} {S : Int → Int} (h : MinCut n v S) : MinCut (turnN n) v fun x => 1 - S x := ⟨(cap_turn h.cut).1, by rw [(cap_turn h.cut).2]; exact h.cap⟩
theorem turn_turnN (n : Net) : turnN (turnN n) = n := by
  unfold turnN
  dsimp only
  rw [turn_turn]
theorem least_great {n : Net} (hn : OkNet n) {v low high : Int} (hl : LeastS (turnN n) v low) (hh : GreatS n v high) : ∀ x, 0 ≤ x → x < n.n → (bit low x = 1 ↔ ¬ bit high x = 1) := fun x h0 h1 => by
  constructor
  · intro h
    have := hl.least _ (minCut_turn ⟨hh.side.cut, hh.cap⟩) x h0 h1 h
    omega
  · intro h
    refine Classical.byContradiction fun hn' => ?_
    have hz := (bit01 low x).resolve_right hn'
    have hm := minCut_turn (n := turnN n) ⟨hl.side.cut, hl.cap⟩
    rw [turn_turnN] at hm
    exact h (hh.most _ hm x h0 h1 (by omega))
theorem CutTurned_true (n : Net) : weirkeep_CutTurned_F n = some true := by
  unfold weirkeep_CutTurned_F
  rw [cuts_eq, bind_some', if_neg (by decide)]
  by_cases hn : OkNet n
  · have n1 := hn.g.n1; have n0 := hn.g.n0
    dsimp only at n0 n1
    obtain ⟨low, v, e1, h1, hM1⟩ := least_ok (ok_turn hn)
    obtain ⟨high, w, e2, h2, hM2⟩ := great_ok hn
    have hvw : v = w := hM1.uniq (max_turn hM2)
    subst hvw
    rw [turned_ok hn, bind_some', e1, bind_some']
    dsimp only
    rw [e2, bind_some']
    dsimp only
    have key := least_great hn h1 h2
    have q1 := (hi_min (ok_turn hn)).1 h1.side.hi
    have q2 := (hi_min hn).1 h2.side.hi
    have q1' : Int.fdiv low (2 ^ n.n.toNat) = 0 := q1
    have hor : bitsOf .or .u16 low high = mask n.n := bits_ext (n := n.n.toNat) (by omega) (hi_or (by omega) q1' q2) (mask_hi (by omega)) fun x hx hx2 => by
      rw [bit_or _ _ hx (by omega), bit_mask (by omega) (by omega), key x hx (by omega)]
      exact ⟨fun _ => by omega, fun _ => (Classical.em _).symm⟩
    have hand : bitsOf .and .u16 low high = 0 := bits_ext (n := n.n.toNat) (by omega) (hi_and (by omega) q1' q2) (by rw [fdiv_zero]; exact ⟨Int.le_refl _, Int.pow_pos (by decide)⟩) fun x hx hx2 => by
      rw [bit_and _ _ hx (by omega), key x hx (by omega)]
      constructor
      · rintro ⟨a, b⟩; exact absurd b a
      · intro h
        exfalso
        unfold bit at h
        rw [and1] at h
        have : Int.fdiv 0 (2 ^ min x.toNat 16) = 0 := by rw [fdiv_zero]; exact ⟨Int.le_refl _, Int.pow_pos (by decide)⟩
        rw [this] at h; omega
    rw [if_neg (by decide), if_pos rfl, if_pos rfl, ck_some (by omega)]
    have hor' : bitsOf .or .u16 low high = IntKind.u16.wrap (IntKind.u16.wrap (1 * 2 ^ min n.n.toNat 16) - 1) := hor
    rw [if_pos hor']
    exact congrArg some (decide_eq_true hand)
  · obtain ⟨m, em⟩ := turned_some n
    obtain ⟨s, v, x, e1⟩ := least_some m
    obtain ⟨e, he, _, e2⟩ := great_bad hn
    rw [em, bind_some', e1, bind_some']
    dsimp only
    rw [e2, bind_some']
    dsimp only
    rw [if_pos he]
end Go.Proofs.Ytdklbcgfjleagaa
