/- Package stable: the other side's view; who does best does the other side's worst. -/
import Derived.Test.YtdjllkoljpjohaaPshapley
namespace Go.Proofs.Ytdjllkoljpjohaa
open Go Go.Proofs.Ytdjllkoljpjohaa.Sx
set_option linter.unusedVariables false
set_option linter.unusedSimpArgs false
theorem OkS.flip {a b : List (List Int)} (h : OkS a b) : OkS b a :=
  ⟨by have := h.n; have := h.lb; omega, h.lb.symm, fun i hi => by rw [h.lb] at hi ⊢; exact h.pb i hi, fun i hi => by rw [h.lb] at hi ⊢; exact h.pa i hi⟩
/-- q tells the other way round what p tells -/
def Back (n : Nat) (p q : List Int) : Prop := ∀ i k : Nat, i < n → k < n → (p.getD i 0 = (k : Int) ↔ q.getD k 0 = (i : Int))
theorem Back.symm {n : Nat} {p q : List Int} (h : Back n p q) : Back n q p := fun i k hi hk => (h k i hk hi).symm
theorem PermL.nat {n : Nat} {p : List Int} (h : PermL n p) {i : Nat} (hi : i < n) : ∃ k : Nat, k < n ∧ p.getD i 0 = (k : Int) := by
  have := h.rg hi
  exact ⟨(p.getD i 0).toNat, by omega, by omega⟩
theorem rkB_rk {b : List (List Int)} {k i : Nat} : rkB b (k : Int) i = rk b k (i : Int) := by unfold rkB rk; rw [Int.toNat_natCast]
theorem GoodS.flip {a b : List (List Int)} {p q : List Int} (g : GoodS a b p) (hq : PermL a.length q) (hb : Back a.length p q) : GoodS b a q := by
  have lb := g.ok.lb
  have hq' : PermL b.length q := by rw [lb]; exact hq
  refine ⟨g.ok.flip, checkS_ok g.ok.flip, hq', ⟨fun k hk => ?_, fun k l hk hl e => hq'.inj hk hl e, fun k l hk hl h1 h2 => ?_⟩⟩
  · have := hq'.rg hk
    exact ⟨this.1, this.2.1⟩
  · rw [lb] at hk hl
    obtain ⟨i, hi, ei⟩ := hq.nat hl
    obtain ⟨j, hj, ej⟩ := hq.nat hk
    try dsimp only at h1 h2
    rw [ei, ej] at h1
    rw [ei] at h2
    rw [rkB_rk, rkB_rk] at h2
    have ep : p.getD i 0 = (l : Int) := (hb i l hi hl).2 ei
    have ep2 : p.getD j 0 = (k : Int) := (hb j k hj hk).2 ej
    have st := g.st.st i j hi hj
    try dsimp only at st
    rw [ep, ep2, rkB_rk, rkB_rk] at st
    exact st h2 h1
theorem Back.make {n : Nat} {p : List Int} (h : PermL n p) : ∃ q, PermL n q ∧ Back n p q := by
  have key : Back n p ((List.range n).map fun (k : Nat) => ix p (k : Int)) := fun i k hi hk => by
    have e : ((List.range n).map fun (k : Nat) => ix p (k : Int)).getD k 0 = ix p (k : Int) := by
      simp [List.getD_eq_getElem?_getD, hk]
    rw [e]
    have := h.rg hi
    have m := ix_mem (h.all k hk)
    constructor
    · intro z; rw [← z]; exact this.2.2
    · intro z; rw [z, Int.toNat_natCast] at m; exact m.2.2
  refine ⟨_, PermL.of (by simp) (fun k hk => ?_) (fun k l hk hl e => ?_), key⟩
  · have e : ((List.range n).map fun (k : Nat) => ix p (k : Int)).getD k 0 = ix p (k : Int) := by
      simp [List.getD_eq_getElem?_getD, hk]
    rw [e]
    have m := ix_mem (h.all k hk)
    rw [h.len] at m
    exact ⟨m.1, m.2.1⟩
  · have e1 : ((List.range n).map fun (k : Nat) => ix p (k : Int)).getD k 0 = ix p (k : Int) := by
      simp [List.getD_eq_getElem?_getD, hk]
    have e2 : ((List.range n).map fun (k : Nat) => ix p (k : Int)).getD l 0 = ix p (l : Int) := by
      simp [List.getD_eq_getElem?_getD, hl]
    rw [e1, e2] at e
    have m1 := (ix_mem (h.all k hk)).2.2
    have m2 := (ix_mem (h.all l hl)).2.2
    rw [e] at m1
    omega
/-- what is best for the one side is worst for the other -/
theorem BestS.worst {a b : List (List Int)} {q p : List Int} (h : BestS a b q) (g : GoodS a b p) {k i j : Nat} (hk : k < a.length) (hi : i < a.length) (hj : j < a.length) (eq : q.getD i 0 = (k : Int)) (ep : p.getD j 0 = (k : Int)) : rk b k (j : Int) ≤ rk b k (i : Int) := by
  refine Int.le_of_not_gt fun hlt => ?_
  have R := h.good.ok.ranks
  have hb := h.best p g.st i hi
  have pr := g.perm.rg hi
  have st := g.st.st i j hi hj
  try dsimp only at st
  rw [ep, rkB_rk, rkB_rk] at st
  rw [eq] at hb
  by_cases c : rk a i (k : Int) = rk a i (p.getD i 0)
  · have e := R.r i _ _ hi (by omega) (by omega) pr.1 pr.2.1 c
    have : i = j := g.perm.inj hi hj (by rw [ep, ← e])
    subst this
    omega
  · exact st (by omega) hlt
end Go.Proofs.Ytdjllkoljpjohaa
