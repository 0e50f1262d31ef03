/- WalkOdd: the law's function answers true. -/
import Derived.Test.YtmgldjkgneiejaaPsides
import Derived.Test.YtmgldjkgneiejaaPkeep
import Derived.Test.YtmgldjkgneiejaaPref
import Derived.Test.YtmgldjkgneiejaaKWalkOdd
namespace Go.Proofs.Ytmgldjkgneiejaa
open Go Go.Proofs.Ytmgldjkgneiejaa.Sx
set_option linter.unusedVariables false
set_option linter.unusedSimpArgs false
theorem sides_line : walk_Sides_F ⟨3, [⟨0, 1, 4⟩, ⟨1, 2, 3⟩]⟩ = some ([0, 1, 0], 0) := by kernel_rfl
/-- The walk's way: an even number of arcs leads to the first one's side. -/
theorem odd_loop {g : Graph} (steps : List Int) {side : List Int} {e : Int} (he : e = 0 → Sided g side) (hl0 : 0 < g.as.length) (hl : g.as.length ≤ 60) (hs : steps.length ≤ 10000) :
    ∃ s, forC (weirkeep_WalkOdd_B2 g steps e) steps.length 0 ((g.as.getD 0 El.d).f, 0) = some (.go s) := by
  obtain ⟨s, h, _⟩ := forC_inv (f := weirkeep_WalkOdd_B2 g steps e) (fun j st => st.2 ≤ j ∧ (e = 0 → atI side st.1 = if st.2 % 2 = 0 then atI side (g.as.getD 0 El.d).f else 1 - atI side (g.as.getD 0 El.d).f)) (n := steps.length) (k := 0) (s := ((g.as.getD 0 El.d).f, 0)) ⟨Nat.le_refl _, fun _ => by simp⟩ fun j st _ hj ⟨h1, h2⟩ => by
    obtain ⟨at_, n⟩ := st
    simp only at h1 h2
    unfold weirkeep_WalkOdd_B2
    obtain ⟨r, hr, r0, r1⟩ := rest_ok (n := steps.getD j 0) (m := (g.as.length : Int)) (by omega) (by omega)
    simp only [hr, bind_some']
    rw [ck_some ⟨r0, r1⟩]
    have hm : g.as.getD r.toNat El.d ∈ g.as := mem_getD (by omega)
    have h0m : g.as.getD 0 El.d ∈ g.as := mem_getD hl0
    generalize g.as.getD r.toNat El.d = a at hm
    have key : ∀ x : Int, (e = 0 → atI side x = 1 - atI side at_) → (n + 1 ≤ j + 1 ∧ (e = 0 → atI side x = if (n + 1) % 2 = 0 then atI side (g.as.getD 0 El.d).f else 1 - atI side (g.as.getD 0 El.d).f)) ∧ (x = (g.as.getD 0 El.d).f → Int.tmod ((n + 1 : Nat) : Int) 2 = 1 → e ≠ 0) := fun x hx => by
      refine ⟨⟨by omega, fun h0 => ?_⟩, fun hxf hodd h0 => ?_⟩
      · rw [hx h0, h2 h0]
        by_cases hp : n % 2 = 0
        · rw [if_pos hp, if_neg (by omega)]
        · rw [if_neg hp, if_pos (by omega)]; omega
      · have h3 := hx h0
        rw [h2 h0, hxf] at h3
        have h4 : (n + 1) % 2 = 1 := by
          rw [Int.tmod_eq_emod_of_nonneg (by omega)] at hodd; omega
        rw [if_pos (by omega)] at h3
        have := (he h0).arc _ h0m
        omega
    by_cases c1 : at_ = a.f
    · have hside : e = 0 → atI side a.t = 1 - atI side at_ := fun h0 => by
        have := (he h0).arc a hm; rw [c1]; omega
      obtain ⟨k1, k2⟩ := key a.t hside
      rw [if_pos c1, ck_some (inI_small (by omega) (by omega))]
      by_cases c2 : a.t = (g.as.getD 0 El.d).f
      · rw [if_pos c2]
        by_cases c3 : Int.tmod ((n + 1 : Nat) : Int) 2 = 1
        · rw [if_pos c3, if_neg (k2 c2 c3)]; exact ⟨_, rfl, k1⟩
        · rw [if_neg c3]; exact ⟨_, rfl, k1⟩
      · rw [if_neg c2]; exact ⟨_, rfl, k1⟩
    · rw [if_neg c1]
      by_cases c1' : at_ = a.t
      · have hside : e = 0 → atI side a.f = 1 - atI side at_ := fun h0 => by
          have := (he h0).arc a hm; rw [c1']; omega
        obtain ⟨k1, k2⟩ := key a.f hside
        rw [if_pos c1', ck_some (inI_small (by omega) (by omega))]
        by_cases c2 : a.f = (g.as.getD 0 El.d).f
        · rw [if_pos c2]
          by_cases c3 : Int.tmod ((n + 1 : Nat) : Int) 2 = 1
          · rw [if_pos c3, if_neg (k2 c2 c3)]; exact ⟨_, rfl, k1⟩
          · rw [if_neg c3]; exact ⟨_, rfl, k1⟩
        · rw [if_neg c2]; exact ⟨_, rfl, k1⟩
      · rw [if_neg c1']
        exact ⟨_, rfl, by omega, h2⟩
  exact ⟨s, h⟩
theorem sided_loop {g : Graph} (hg : Ok g) {side : List Int} (h : Sided g side) : forC (weirkeep_WalkOdd_B1 g side) g.as.length 0 () = some (.go ()) := by
  refine forC_all fun j _ hj => ?_
  have ha := hg.arc _ (mem_getD (d := El.d) (show j < g.as.length by omega))
  have hv := h.arc _ (mem_getD (d := El.d) (show j < g.as.length by omega))
  have hl := h.len
  have := ha.f0; have := ha.f1; have := ha.t0; have := ha.t1
  have e1 : side.getD ((g.as.getD j El.d).f).toNat 0 = atI side (g.as.getD j El.d).f := rfl
  have e2 : side.getD ((g.as.getD j El.d).t).toNat 0 = atI side (g.as.getD j El.d).t := rfl
  unfold weirkeep_WalkOdd_B1
  rw [ck_some ⟨ha.f0, by omega⟩, ck_some ⟨ha.t0, by omega⟩, e1, e2]
  rcases hv with ⟨v1, v2⟩ | ⟨v1, v2⟩ <;> rw [v1, v2] <;> simp <;> decide
theorem WalkOdd_true (g : Graph) (steps : List Int) : weirkeep_WalkOdd_F g steps = some true := by
  unfold weirkeep_WalkOdd_F
  simp only [line_eq, bind_some', sides_line, equalInts_eq, ne_eq, not_true_eq_false, if_false, decide_true, Bool.not_true, Bool.false_eq_true]
  by_cases hc : checkF g (-10000) = 0
  · have hg := (checkF_ok g _).1 hc
    have hl := hg.len
    rcases sides_ok hg with ⟨side, h1, h2⟩ | h1
    · rw [h1, bind_some']; dsimp only
      have hlen := h2.len
      have hn0 := hg.n0
      simp only [not_true_eq_false, if_false, if_true]
      by_cases c1 : (g.as.length : Int) = 0
      · rw [if_pos c1, if_pos (by omega)]; rfl
      · rw [if_neg c1]
        by_cases c2 : 10000 < (steps.length : Int)
        · rw [if_pos c2, if_pos (by omega)]; rfl
        · rw [if_neg c2, bind_some']; dsimp only
          rw [sided_loop hg h2, bind_some']; dsimp only
          rw [bind_some']; dsimp only
          obtain ⟨s, e⟩ := odd_loop (g := g) steps (side := side) (e := 0) (fun _ => h2) (by omega) hl (by omega)
          rw [ck_some (by omega), e, bind_some']
    · rw [h1, bind_some']; dsimp only
      simp only [if_pos (show ¬ (6 : Int) = 0 by omega), if_neg (show ¬ (6 : Int) = 0 by omega), not_true_eq_false, if_false]
      by_cases c1 : (g.as.length : Int) = 0
      · rw [if_pos c1]; rfl
      · rw [if_neg c1]
        by_cases c2 : 10000 < (steps.length : Int)
        · rw [if_pos c2]; rfl
        · rw [if_neg c2, bind_some']; dsimp only
          rw [bind_some']; dsimp only
          obtain ⟨s, e⟩ := odd_loop (g := g) steps (side := []) (e := 6) (fun h => absurd h (by omega)) (by omega) hl (by omega)
          rw [ck_some (by omega), e, bind_some']
  · rw [sides_bad hc, bind_some']; dsimp only
    rw [if_pos hc]
    by_cases h6 : checkF g (-10000) = 6
    · exfalso
      have : checkF g (-10000) ≤ 4 := by
        unfold checkF
        split
        · omega
        · split
          · omega
          · have : ∀ l : List Arc, checkL g.n (-10000) l ≤ 4 := fun l => by
              induction l with
              | nil => simp [checkL]
              | cons a l ih =>
                rw [checkL]
                split
                · omega
                · split
                  · omega
                  · exact ih
            exact this _
      omega
    · rw [if_pos h6, if_pos hc]; rfl
end Go.Proofs.Ytmgldjkgneiejaa
