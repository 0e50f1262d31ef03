/- A graph without an arc: what graph.Without answers. -/
import Derived.Test.YtlelfifbmckhgaaPgraph
import Derived.Test.YtlelfifbmckhgaaGgraph
namespace Go.Proofs.Ytlelfifbmckhgaa
open Go Go.Proofs.Ytlelfifbmckhgaa.Sx
set_option linter.unusedVariables false
set_option linter.unusedSimpArgs false
theorem grow_eq {n : Nat} (h : n ≤ 1000000) : slices_Grow_Arc_F (n : Int) = some [] := by
  unfold slices_Grow_Arc_F
  rw [if_neg (by omega), ck_some (inI_small (by omega) (by omega)), ck_some (inI_small (by omega) (by omega))]
  split
  · rw [ck_some ⟨by omega, by omega⟩]; simp [subl]
  · rfl
theorem concat_eq {l m : List Arc} (hl : l.length ≤ 1000) (hm : m.length ≤ 1000) : slices_Concat_Arc_F [l, m] = some (l ++ m) := by
  unfold slices_Concat_Arc_F
  have e1 : forN (slices_Concat_Arc_B1 [l, m]) 2 0 0 = some (l.length + m.length) := by
    simp only [forN, slices_Concat_Arc_B1, List.getD_cons_zero, List.getD_cons_succ]
    rw [ck_some (inI_small (by omega) (by omega)), if_neg (by omega)]
    simp only [bind_some', Nat.zero_add]
    rw [ck_some (inI_small (by omega) (by omega)), if_neg (by omega)]
    rfl
  have e2 : forN (slices_Concat_Arc_B2 [l, m]) 2 0 [] = some (l ++ m) := by
    simp only [forN, slices_Concat_Arc_B2, List.getD_cons_zero, List.getD_cons_succ]
    rw [ck_some (by simp; omega)]
    simp only [bind_some', Nat.zero_add, List.nil_append]
    rw [ck_some (by omega)]
    rfl
  show (forN (slices_Concat_Arc_B1 [l, m]) 2 0 0).bind _ = _
  rw [e1, bind_some', grow_eq (by omega), bind_some']
  show (forN (slices_Concat_Arc_B2 [l, m]) 2 0 []).bind _ = _
  rw [e2]; rfl
def less (l : List Arc) (k : Nat) : List Arc := subl l 0 k ++ subl l (k + 1) (l.length - (k + 1))
theorem less_eq {l : List Arc} {k : Nat} (h : k < l.length) : less l k = l.take k ++ l.drop (k + 1) := by
  unfold less subl
  rw [List.drop_zero, List.take_of_length_le (l := l.drop (k + 1)) (by simp)]
theorem split_eq {l : List Arc} {k : Nat} (h : k < l.length) : l = l.take k ++ l.getD k El.d :: l.drop (k + 1) := by
  conv => lhs; rw [← List.take_append_drop k l, drop_getD El.d h]
end Go.Proofs.Ytlelfifbmckhgaa
