/- NeedSets: the law's function answers true. -/
import Derived.Test.YtdklbcgfjleagaaPneed
import Derived.Test.YtdklbcgfjleagaaKNeedSets
namespace Go.Proofs.Ytdklbcgfjleagaa
open Go Go.Proofs.Ytdklbcgfjleagaa.Sx
set_option linter.unusedVariables false
set_option linter.unusedSimpArgs false
theorem needsS_eq : weirkeep_needs_F = some true := by kernel_rfl
def inA (S : Int → Int) (a : Need) : Int := if S a.f = 0 ∧ S a.t = 1 then a.low else 0
def outA (S : Int → Int) (a : Need) : Int := if S a.f = 1 ∧ S a.t = 0 then a.cap else 0
theorem sets_step {p q lo c x y : Int} (hp : p = 0 ∨ p = 1) (hq : q = 0 ∨ q = 1) (h0 : 0 ≤ lo) (h1 : lo ≤ c) (h2 : c ≤ 333) (hx : -9990 ≤ x ∧ x ≤ 9990) (hy : -9990 ≤ y ∧ y ≤ 9990) :
    (if p = 0 then if q = 1 then ck (InI (x + lo)) (some (x + lo, y)) else if p = 1 then if q = 0 then ck (InI (y + c)) (some (x, y + c)) else some (x, y) else some (x, y)
      else if p = 1 then if q = 0 then ck (InI (y + c)) (some (x, y + c)) else some (x, y) else some (x, y)) = some (x + (if p = 0 ∧ q = 1 then lo else 0), y + (if p = 1 ∧ q = 0 then c else 0)) := by
  rw [ck_some (inI_small (by omega) (by omega)), ck_some (inI_small (by omega) (by omega))]
  rcases hp with rfl | rfl <;> rcases hq with rfl | rfl <;> simp
theorem sets_loop {n : Int} {l : List Need} (h : NeedOk n l) (set : Int) : forN (weirkeep_NeedSets_B1 l set) l.length 0 (0, 0) = some (tot (fun k => inA (bit set) (l.getD k El.d)) l.length, tot (fun k => outA (bit set) (l.getD k El.d)) l.length) := by
  have hlen := h.len
  obtain ⟨s, e, hs⟩ := forN_inv (f := weirkeep_NeedSets_B1 l set) (fun j s => s = (tot (fun k => inA (bit set) (l.getD k El.d)) j, tot (fun k => outA (bit set) (l.getD k El.d)) j)) (n := l.length) (k := 0) (s := (0, 0)) rfl fun j s _ hj hs => by
    subst hs
    have hj' : j < l.length := by omega
    obtain ⟨hr, lo0, lo1, ca⟩ := h.at hj'
    have b1 := tot_abs (f := fun k => inA (bit set) (l.getD k El.d)) (M := 333) (n := j) fun i hi => by
      have := h.at (k := i) (by omega)
      unfold inA; split <;> omega
    have b2 := tot_abs (f := fun k => outA (bit set) (l.getD k El.d)) (M := 333) (n := j) fun i hi => by
      have := h.at (k := i) (by omega)
      unfold outA; split <;> omega
    unfold weirkeep_NeedSets_B1
    simp only [bit_fold]
    rw [ck_some hr.1, ck_some hr.2.2.1]
    simp only [tot]
    refine ⟨_, ?_, rfl⟩
    have e1 : inA (bit set) (l.getD j El.d) = if bit set (l.getD j El.d).f = 0 ∧ bit set (l.getD j El.d).t = 1 then (l.getD j El.d).low else 0 := rfl
    have e2 : outA (bit set) (l.getD j El.d) = if bit set (l.getD j El.d).f = 1 ∧ bit set (l.getD j El.d).t = 0 then (l.getD j El.d).cap else 0 := rfl
    rw [e1, e2]
    exact sets_step (bit01 _ _) (bit01 _ _) lo0 lo1 ca (by omega) (by omega)
  rw [e, hs, Nat.zero_add]
theorem hoff_term {p q c lo g : Int} (h0 : lo ≤ g) (h1 : g ≤ c) (hp : p = 0 ∨ p = 1) (hq : q = 0 ∨ q = 1) : 0 ≤ (if p = 1 ∧ q = 0 then c else 0) - (if p = 0 ∧ q = 1 then lo else 0) - g * (p - q) := by
  rcases hp with rfl | rfl <;> rcases hq with rfl | rfl <;> simp <;> omega
theorem hoffman {n : Int} {l : List Need} (h : NeedOk n l) {g : List Int} (hg : Circ n l g) {S : Int → Int} (hb : ∀ x, S x = 0 ∨ S x = 1) : tot (fun k => inA S (l.getD k El.d)) l.length ≤ tot (fun k => outA S (l.getD k El.d)) l.length := by
  have n0 := h.n0; have n1 := h.n1
  have e1 := tot_nodes (L := arcsN l) (f := g) S (j := l.length) fun k hk => by
    have := h.at hk
    rw [arcsN_getD]
    simp only [arcN]
    omega
  have e2 : tot (fun x => S (x : Int) * tot (term (arcsN l) g (x : Int)) l.length) 12 = 0 := tot_zero fun x _ => by
    by_cases hx : x < n.toNat
    · have := hg.keep x hx
      unfold netAt at this
      rw [arcsN_len] at this
      rw [this, Int.mul_zero]
    · rw [tot_zero fun k hk => by
        have := h.at hk
        rw [term_N]
        rw [if_neg (by omega), if_neg (by omega)]; rfl, Int.mul_zero]
  have e3 : 0 ≤ tot (fun k => outA S (l.getD k El.d) - inA S (l.getD k El.d) - g.getD k 0 * (S ((arcsN l).getD k El.d).f - S ((arcsN l).getD k El.d).t)) l.length := tot_nonneg fun k hk => by
    have hbnd := hg.bnd k hk
    rw [arcsN_getD]
    exact hoff_term hbnd.1 hbnd.2 (hb _) (hb _)
  rw [tot_sub, tot_sub, ← e1, e2] at e3
  omega
theorem NeedSets_true (n : Int) (l : List Need) (set : Int) : weirkeep_NeedSets_F n l set = some true := by
  unfold weirkeep_NeedSets_F
  rw [needsS_eq, bind_some', if_neg (by decide)]
  rcases round_cases n l with ⟨h, g, hg, e⟩ | ⟨h, hno, e⟩ | ⟨hbad, e, he, he5, e1⟩
  · rw [e, bind_some']
    dsimp only
    rw [fault_ok h ⟨g, hg⟩, bind_some']
    dsimp only
    rw [if_neg (by decide), sets_loop h set, bind_some']
    dsimp only
    rw [if_pos rfl]
    exact congrArg some (decide_eq_true (hoffman h hg (bit01 set)))
  · obtain ⟨s, ef, _⟩ := fault_none h hno
    rw [e, bind_some']
    dsimp only
    rw [ef, bind_some']
    dsimp only
    rw [if_pos (by decide)]
    rfl
  · have hf : ∃ s x, need_Fault_F n l = some (s, x) := by
      rcases needCheck_cases n l with ⟨h, _⟩ | ⟨_, x, hx, _, ex⟩
      · exact absurd h hbad
      · unfold need_Fault_F
        exact ⟨0, x, by rw [ex, bind_some', if_pos hx]⟩
    obtain ⟨s, x, ef⟩ := hf
    rw [e1, bind_some']
    dsimp only
    rw [ef, bind_some']
    dsimp only
    rw [if_pos he, if_pos (by simp), if_pos he5]
end Go.Proofs.Ytdklbcgfjleagaa
