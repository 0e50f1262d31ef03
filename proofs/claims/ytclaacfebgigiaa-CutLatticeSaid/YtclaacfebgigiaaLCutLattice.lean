/- CutLattice: the law's function answers true. -/
import Derived.Test.YtclaacfebgigiaaPspread
import Derived.Test.YtclaacfebgigiaaPsub
import Derived.Test.YtclaacfebgigiaaKCutLattice
namespace Go.Proofs.Ytclaacfebgigiaa
open Go Go.Proofs.Ytclaacfebgigiaa.Sx
set_option linter.unusedVariables false
set_option linter.unusedSimpArgs false
/-- a side that takes as little as can be, told by a number -/
def IsMin (n : Net) (v s : Int) : Prop := Side n s ∧ capS n.as (bit s) = v
open Classical in
theorem lattice_eq (n : Net) (v s : Int) : weirkeep_CutLattice_c1_F s n v = some (decide (IsMin n v s)) := by
  unfold weirkeep_CutLattice_c1_F
  rcases cap_cases n s with ⟨hS, e⟩ | ⟨hS, x, hx, e⟩
  · rw [e, bind_some']
    dsimp only
    rw [if_pos rfl]
    congr 1
    rw [decide_eq_decide]
    exact ⟨fun h => ⟨hS, h⟩, fun h => h.2⟩
  · rw [e, bind_some']
    dsimp only
    rw [if_neg hx, decide_eq_false fun h => hS h.1]
theorem zero_hi (k : Nat) : Int.fdiv 0 (2 ^ k) = 0 := by rw [fdiv_zero]; exact ⟨Int.le_refl _, Int.pow_pos (by decide)⟩
theorem bit_zero (x : Int) : ¬ bit 0 x = 1 := by
  unfold bit
  rw [and1, zero_hi]
  decide
theorem IsMin.mc {n : Net} {v s : Int} (h : IsMin n v s) : MinCut n v (bit s) := ⟨h.1.cut, h.2⟩
theorem meet_join {n : Net} (hn : OkNet n) {v a b : Int} (hM : MaxV n v) (ha : IsMin n v a) (hb : IsMin n v b) : IsMin n v (bitsOf .and .u16 a b) ∧ IsMin n v (bitsOf .or .u16 a b) := by
  have s1 := side_and ha.1 hb.1
  have s2 := side_or ha.1 hb.1
  have g1 := hM.ge s1.cut
  have g2 := hM.ge s2.cut
  have h := submod hn a b
  have e1 := ha.2
  have e2 := hb.2
  exact ⟨⟨s1, by omega⟩, s2, by omega⟩
open Classical in
theorem CutLattice_true (n : Net) (a b : Int) : weirkeep_CutLattice_F n a b = some true := by
  unfold weirkeep_CutLattice_F
  rw [cuts_eq, bind_some', if_neg (by decide)]
  by_cases hn : OkNet n
  · have n1 := hn.g.n1; have n0 := hn.g.n0
    dsimp only at n0 n1
    obtain ⟨low, v, e1, h1, hM1⟩ := least_ok hn
    obtain ⟨high, w, e2, h2, hM2⟩ := great_ok hn
    have := hM1.uniq hM2
    subst this
    have hlow : IsMin n v low := ⟨h1.side, h1.cap⟩
    have hhigh : IsMin n v high := ⟨h2.side, h2.cap⟩
    have q1 := (hi_min hn).1 h1.side.hi
    have q2 := (hi_min hn).1 h2.side.hi
    have below : ∀ s, IsMin n v s → bitsOf .andNot .u16 s high = 0 := fun s hs => by
      have qs := (hi_min hn).1 hs.1.hi
      refine bits_ext (n := n.n.toNat) (by omega) (hi_andNot (by omega) qs) (zero_hi _) fun x hx hx2 => ?_
      rw [bit_andNot _ _ hx (by omega)]
      constructor
      · rintro ⟨p, q⟩
        exact absurd (h2.most _ hs.mc x hx (by omega) p) q
      · intro h; exact absurd h (bit_zero x)
    have above : ∀ s, IsMin n v s → bitsOf .and .u16 s low = low := fun s hs => by
      have qs := (hi_min hn).1 hs.1.hi
      refine bits_ext (n := n.n.toNat) (by omega) (hi_and (by omega) qs q1) q1 fun x hx hx2 => ?_
      rw [bit_and _ _ hx (by omega)]
      exact ⟨fun h => h.2, fun h => ⟨h1.least _ hs.mc x hx (by omega) h, h⟩⟩
    rw [e1, bind_some']
    dsimp only
    rw [e2, bind_some']
    dsimp only
    rw [if_neg (by decide), if_neg (by decide), if_neg (fun h => h rfl), lattice_eq, bind_some', decide_eq_true hlow, if_neg (by decide), lattice_eq, bind_some', decide_eq_true hhigh, if_neg (by decide), if_neg (fun h => h (below low hlow)), lattice_eq, bind_some']
    by_cases ha : IsMin n v a
    · rw [decide_eq_true ha, if_pos rfl, if_neg (fun h => h (above a ha)), if_neg (fun h => h (below a ha)), bind_some']
      dsimp only
      rw [bind_some', if_neg (by decide), lattice_eq, bind_some']
      by_cases hb : IsMin n v b
      · obtain ⟨m1, m2⟩ := meet_join hn hM1 ha hb
        rw [decide_eq_true hb, if_neg (by decide), lattice_eq, bind_some', decide_eq_true m1, if_pos rfl, lattice_eq, bind_some', decide_eq_true m2]
      · rw [decide_eq_false hb, if_pos (by decide)]
    · rw [decide_eq_false ha, if_neg (by decide), bind_some']
      dsimp only
      rw [bind_some', if_pos (by decide)]
  · obtain ⟨e, he, hc, h1⟩ := least_bad hn
    obtain ⟨e2, he2, hc2, h2⟩ := great_bad hn
    have : e = e2 := by rw [hc] at hc2; exact Option.some.inj hc2
    subst this
    rw [h1, bind_some']
    dsimp only
    rw [h2, bind_some']
    dsimp only
    rw [if_pos he, if_pos rfl]
    have : bitsOf .or .u16 0 0 = 0 := by decide
    rw [this]; rfl
end Go.Proofs.Ytclaacfebgigiaa
