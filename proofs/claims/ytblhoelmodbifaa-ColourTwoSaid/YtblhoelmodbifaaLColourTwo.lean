/- ColourTwo: the law's function answers true. -/
import Derived.Test.YtblhoelmodbifaaPcolour
import Derived.Test.YtblhoelmodbifaaPsides
import Derived.Test.YtblhoelmodbifaaPref
import Derived.Test.YtblhoelmodbifaaKColourTwo
namespace Go.Proofs.Ytblhoelmodbifaa
open Go Go.Proofs.Ytblhoelmodbifaa.Sx
set_option linter.unusedVariables false
set_option linter.unusedSimpArgs false
theorem lineT_eq : weirkeep_line_F = some ⟨3, [⟨0, 1, 4⟩, ⟨1, 2, 3⟩]⟩ := by kernel_rfl
theorem countT_eq : colour_Count_F ⟨3, [⟨0, 1, 4⟩, ⟨1, 2, 3⟩]⟩ 2 = some (2, 0) := by kernel_rfl
theorem colN_two {g : Graph} (hg : Ok g) : 0 < colN 2 g.n.toNat g.as ↔ ∃ c, Two g c := by
  have n0 := hg.n0
  unfold colN
  rw [SS_pos fun c => (FF_01 g.as c).1]
  constructor
  · rintro ⟨c, h1, _, h3⟩
    refine ⟨c, fun x hx hx2 => ?_, FF_pos.1 h3⟩
    have := h1 x (mem_vars.2 ⟨hx, by omega⟩)
    omega
  · rintro ⟨c, hc⟩
    refine ⟨fun x => if 0 ≤ x ∧ x < g.n then c x else 0, fun x hx => ?_, fun x hx => ?_, FF_pos.2 fun a ha => ?_⟩
    · have := mem_vars.1 hx
      have := hc.v x (by omega) (by omega)
      try dsimp only
      rw [if_pos (by omega)]; omega
    · try dsimp only
      rw [if_neg (fun h => hx (mem_vars.2 ⟨h.1, by omega⟩))]
    · have hG := hg.arc a ha
      try dsimp only
      rw [if_pos ⟨hG.f0, hG.f1⟩, if_pos ⟨hG.t0, hG.t1⟩]
      exact hc.arc a ha
theorem ColourTwo_true (g : Graph) (many : Int) : weirkeep_ColourTwo_F g many = some true := by
  unfold weirkeep_ColourTwo_F
  rw [lineT_eq, bind_some', countT_eq, bind_some']
  try dsimp only
  rw [if_neg (by decide), if_neg (by decide)]
  by_cases h : OkC g 2
  · obtain ⟨r, er, r0, r1⟩ := rest_ok (n := many) (m := 20) (by omega) (by omega)
    have ha : OkC g r := ⟨h.ok, h.n, h.l, r0, by omega⟩
    have hb : OkC g (r + 1) := ⟨h.ok, h.n, h.l, by omega, by omega⟩
    have hmono := colN_mono (K := r.toNat) (K' := (r + 1).toNat) (by omega) g.n.toNat g.as
    have h2 := colN_two h.ok
    have fin : ∀ e : Int, ((∃ c, Two g c) ↔ e = 0) → (if (decide (0 < colN (2 : Int).toNat g.n.toNat g.as)) = (decide (e = 0)) then
        (if (0 : Int) = 0 then (if (0 : Int) = 0 then (if 0 ≤ colN r.toNat g.n.toNat g.as then some (decide (colN r.toNat g.n.toNat g.as ≤ colN (r + 1).toNat g.n.toNat g.as)) else some false) else some false) else some false) else some false) = some true := fun e he => by
      rw [if_pos (by rw [decide_eq_decide]; exact h2.trans he), if_pos rfl, if_pos rfl, if_pos (colN_nonneg _ _ _)]
      exact congrArg some (decide_eq_true hmono)
    rw [count_ok h, bind_some']
    try dsimp only
    rcases sides_full h.ok with ⟨l, e, hS⟩ | ⟨e, hn⟩
    · rw [e, bind_some']
      try dsimp only
      rw [if_neg (by decide), er, bind_some', count_ok ha, bind_some']
      try dsimp only
      rw [ck_some (inI_small (by omega) (by omega)), count_ok hb, bind_some']
      try dsimp only
      refine fin 0 ⟨fun _ => rfl, fun _ => ⟨fun x => if atI l x = 1 then 1 else 0, fun x hx hx2 => ?_, fun a ha => ?_⟩⟩
      · by_cases q : atI l x = 1
        · right; simp [q]
        · left; simp [q]
      · try dsimp only
        rcases hS.arc a ha with ⟨h1, h2⟩ | ⟨h1, h2⟩
        · rw [h1, h2]; decide
        · rw [h1, h2]; decide
    · rw [e, bind_some']
      try dsimp only
      rw [if_neg (by decide), er, bind_some', count_ok ha, bind_some']
      try dsimp only
      rw [ck_some (inI_small (by omega) (by omega)), count_ok hb, bind_some']
      try dsimp only
      exact fin 6 ⟨fun ⟨c, hc⟩ => absurd hc (hn c), fun h => absurd h (by decide)⟩
  · obtain ⟨e, he, h1⟩ := count_bad h
    have hs : ∃ l x, walk_Sides_F g = some (l, x) := by
      by_cases hc : checkF g (-10000) = 0
      · rcases sides_ok ((checkF_ok g _).1 hc) with ⟨l, e, _⟩ | e
        · exact ⟨_, _, e⟩
        · exact ⟨_, _, e⟩
      · exact ⟨_, _, sides_bad hc⟩
    obtain ⟨l, x, e2⟩ := hs
    rw [h1, bind_some']
    try dsimp only
    rw [e2, bind_some']
    try dsimp only
    rw [if_pos he]; rfl
end Go.Proofs.Ytblhoelmodbifaa
