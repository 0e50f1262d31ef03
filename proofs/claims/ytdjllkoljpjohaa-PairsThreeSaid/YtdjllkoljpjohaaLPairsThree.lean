/- PairsThree: the law's function answers true. -/
import Derived.Test.YtdjllkoljpjohaaPpairs
import Derived.Test.YtdjllkoljpjohaaKPairsThree
namespace Go.Proofs.Ytdjllkoljpjohaa
open Go Go.Proofs.Ytdjllkoljpjohaa.Sx
set_option linter.unusedVariables false
set_option linter.unusedSimpArgs false
theorem partedT_eq : weirkeep_parted_F = some true := by kernel_rfl
theorem part_some (g : Graph) (s t : Int) : ∃ v e, pairs_Part_F g s t = some (v, e) ∧ (e = 0 → OkP g ∧ OkNet (bothN g s t) ∧ MaxV (bothN g s t) v) := by
  by_cases h : OkP g
  · by_cases hn : OkNet (bothN g s t)
    · obtain ⟨v, e, hM⟩ := part_ok h hn
      exact ⟨v, 0, e, fun _ => ⟨h, hn, hM⟩⟩
    · obtain ⟨e, he, _, h1⟩ := part_none h hn
      exact ⟨0, e, h1, fun z => absurd z he⟩
  · obtain ⟨e, he, h1⟩ := part_bad h
    exact ⟨0, e, h1 s t, fun z => absurd z he⟩
theorem PairsThree_true (g : Graph) (s t u : Int) : weirkeep_PairsThree_F g s t u = some true := by
  unfold weirkeep_PairsThree_F
  rw [partedT_eq, bind_some', if_neg (by decide)]
  -- the first and the last
  have swap : ∃ a e, pairs_Part_F g s t = some (a, e) ∧ pairs_Part_F g t s = some (a, e) ∧ (e = 0 → OkNet (bothN g s t) ∧ MaxV (bothN g s t) a) := by
    by_cases h : OkP g
    · by_cases hn : OkNet (bothN g s t)
      · obtain ⟨v, e, hM⟩ := part_ok h hn
        obtain ⟨w, e2, hM2⟩ := part_ok h (okN_swap hn)
        have h1 := max_swap hn hM hM2
        have h2 := max_swap (okN_swap hn) hM2 hM
        have : v = w := by omega
        subst this
        exact ⟨v, 0, e, e2, fun _ => ⟨hn, hM⟩⟩
      · obtain ⟨e, he, hc, h1⟩ := part_none h hn
        obtain ⟨e2, he2, hc2, h2⟩ := part_none h fun z => hn (okN_swap z)
        rw [checkNet_swap g t s, hc] at hc2
        obtain rfl := Option.some.inj hc2
        exact ⟨0, e, h1, h2, fun z => absurd z he⟩
    · obtain ⟨e, he, h1⟩ := part_bad h
      exact ⟨0, e, h1 s t, h1 t s, fun z => absurd z he⟩
  obtain ⟨a, e, h1, h4, ha⟩ := swap
  obtain ⟨b, e2, h2, hb⟩ := part_some g s u
  obtain ⟨c, e3, h3, hc⟩ := part_some g u t
  rw [h1, bind_some']
  dsimp only
  rw [h2, bind_some']
  dsimp only
  rw [h3, bind_some']
  dsimp only
  rw [h4, bind_some']
  dsimp only
  rw [if_neg (fun z => z rfl), if_neg (fun z => z rfl)]
  by_cases q1 : e = 0
  · rw [if_neg (by simpa using q1)]
    by_cases q2 : e2 = 0
    · rw [if_neg (by simpa using q2)]
      by_cases q3 : e3 = 0
      · rw [if_neg (by simpa using q3)]
        obtain ⟨_, hM⟩ := ha q1
        obtain ⟨_, _, hM2⟩ := hb q2
        obtain ⟨_, _, hM3⟩ := hc q3
        obtain ⟨S, hS, eS⟩ := hM.cut
        have es : S s = 1 := hS.s
        have et : S t = 0 := hS.t
        have eS' : lsA (across S) g.as = a := (cap_both g.as hS.b).symm.trans eS
        refine congrArg some (decide_eq_true ?_)
        rcases hS.b u with q | q
        · have := hM2.ge (S := S) ⟨es, q, hS.b⟩
          have e5 : capS (bothN g s u).as S = lsA (across S) g.as := cap_both g.as hS.b
          omega
        · have := hM3.ge (S := S) ⟨q, et, hS.b⟩
          have e5 : capS (bothN g u t).as S = lsA (across S) g.as := cap_both g.as hS.b
          omega
      · rw [if_pos q3]
    · rw [if_pos q2]
  · rw [if_pos q1]
end Go.Proofs.Ytdjllkoljpjohaa
