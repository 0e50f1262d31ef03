/- GraphTurns: the law's function answers true. -/
import Derived.Test.YtmgldjkgneiejaaPkeep
import Derived.Test.YtmgldjkgneiejaaKGraphTurns
namespace Go.Proofs.Ytmgldjkgneiejaa
open Go Go.Proofs.Ytmgldjkgneiejaa.Sx
set_option linter.unusedVariables false
set_option linter.unusedSimpArgs false
theorem degrees_line : graph_Degrees_F ⟨3, [⟨0, 1, 4⟩, ⟨1, 2, 3⟩]⟩ = some ([1, 1, 0], [0, 1, 1], 0) := by kernel_rfl
theorem GraphTurns_true (g : Graph) : weirkeep_GraphTurns_F g = some true := by
  unfold weirkeep_GraphTurns_F
  simp only [line_eq, bind_some', degrees_line, equalInts_eq, if_neg (show ¬ (0 : Int) ≠ 0 by simp), decide_true, Bool.not_true, Bool.false_eq_true, if_false]
  by_cases h : checkF g (-10000) = 0
  · have hg := (checkF_ok g _).1 h
    have ht := hg.turn
    have hn1 := hg.n1
    have hl := hg.len
    rw [degrees_ok hg, turn_ok hg]
    simp only [bind_some', if_neg (show ¬ (0 : Int) ≠ 0 by simp)]
    rw [degrees_ok ht, turn_ok ht]
    have e1 : nodes (outs (g.as.map turnA)) g.n = nodes (inns g.as) g.n := nodes_congr fun i _ _ => outs_turn _ _
    have e2 : nodes (inns (g.as.map turnA)) g.n = nodes (outs g.as) g.n := nodes_congr fun i _ _ => inns_turn _ _
    simp only [bind_some', e1, e2, equalInts_eq, decide_true, if_true]
    rw [sum_nodes _ _ fun j hj => tot_small (b := 60) (fun i => by have := outs_le g.as i; omega) (by omega) (by omega) (by omega),
      sum_nodes _ _ fun j hj => tot_small (b := 60) (fun i => by have := inns_le g.as i; omega) (by omega) (by omega) (by omega)]
    simp only [bind_some', tot_outs hg.arc, tot_inns hg.arc, if_true, turn_turn, equalArcs_eq, decide_true]
  · rw [degrees_bad h, turn_bad h]
    simp only [bind_some', if_pos h, decide_true]
end Go.Proofs.Ytmgldjkgneiejaa
