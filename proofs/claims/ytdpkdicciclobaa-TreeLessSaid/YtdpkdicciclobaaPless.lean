/- A graph without an arc: what graph.Without answers. -/
import Derived.Test.YtdpkdicciclobaaPgraph
import Derived.Test.YtdpkdicciclobaaGgraph
namespace Go.Proofs.Ytdpkdicciclobaa
open Go Go.Proofs.Ytdpkdicciclobaa.Sx
set_option linter.unusedVariables false
set_option linter.unusedSimpArgs false
theorem grow_eq {n : Nat} (h : n ≤ 1000000) : slices_Grow_Arc_F (n : Int) = some [] := by
  unfold slices_Grow_Arc_F
  rw [if_neg (by omega), ck_some (inI_small (by omega) (by omega)), ck_some (inI_small (by omega) (by omega))]
  split
  · rw [ck_some ⟨by omega, by omega⟩]; simp [subl]
  · rfl
theorem concat_eq {l m : List Arc} (hl : l.length ≤ 1000) (hm : m.length ≤ 1000) : slices_Concat_Arc_F [l, m] = some (l ++ m) := by
  unfold slices_Concat_Arc_F
  have e1 : forN (slices_Concat_Arc_B1 [l, m]) 2 0 0 = some (l.length + m.length) := by
    simp only [forN, slices_Concat_Arc_B1, List.getD_cons_zero, List.getD_cons_succ]
    rw [ck_some (inI_small (by omega) (by omega)), if_neg (by omega)]
    simp only [bind_some', Nat.zero_add]
    rw [ck_some (inI_small (by omega) (by omega)), if_neg (by omega)]
    rfl
  have e2 : forN (slices_Concat_Arc_B2 [l, m]) 2 0 [] = some (l ++ m) := by
    simp only [forN, slices_Concat_Arc_B2, List.getD_cons_zero, List.getD_cons_succ]
    rw [ck_some (by simp; omega)]
    simp only [bind_some', Nat.zero_add, List.nil_append]
    rw [ck_some (by omega)]
    rfl
  show (forN (slices_Concat_Arc_B1 [l, m]) 2 0 0).bind _ = _
  rw [e1, bind_some', grow_eq (by omega), bind_some']
  show (forN (slices_Concat_Arc_B2 [l, m]) 2 0 []).bind _ = _
  rw [e2]; rfl
def less (l : List Arc) (k : Nat) : List Arc := subl l 0 k ++ subl l (k + 1) (l.length - (k + 1))
theorem less_eq {l : List Arc} {k : Nat} (h : k < l.length) : less l k = l.take k ++ l.drop (k + 1) := by
  unfold less subl
  rw [List.drop_zero, List.take_of_length_le (l := l.drop (k + 1)) (by simp)]
theorem split_eq {l : List Arc} {k : Nat} (h : k < l.length) : l = l.take k ++ l.getD k El.d :: l.drop (k + 1) := by
  conv => lhs; rw [← List.take_append_drop k l, drop_getD El.d h]
theorem outs_append (l m : List Arc) (i : Int) : outs (l ++ m) i = outs l i + outs m i := by
  unfold outs; rw [List.countP_append]; omega
theorem outs_less {l : List Arc} {k : Nat} (h : k < l.length) (i : Int) : outs (less l k) i = outs l i - if (l.getD k El.d).f = i then 1 else 0 := by
  rw [less_eq h, outs_append]
  have e : outs l i = outs (l.take k ++ l.getD k El.d :: l.drop (k + 1)) i := congrArg (fun m => outs m i) (split_eq h)
  rw [e, outs_append, outs_cons]
  omega
theorem OkL.less {g : Graph} {least : Int} (hg : OkL g least) {k : Nat} (h : k < g.as.length) : OkL ⟨g.n, less g.as k⟩ least :=
  ⟨hg.n0, hg.n1, by
    show (Go.Proofs.Ytdpkdicciclobaa.less g.as k).length ≤ 60
    have := hg.len
    rw [less_eq h]; simp; omega, fun a ha => by
    have ha' : a ∈ Go.Proofs.Ytdpkdicciclobaa.less g.as k := ha
    rw [less_eq h] at ha'
    rcases List.mem_append.1 ha' with h1 | h1
    · exact hg.arc a (List.mem_of_mem_take h1)
    · exact hg.arc a (List.mem_of_mem_drop h1)⟩
theorem without_ok {g : Graph} (hg : Ok g) {k : Int} (h0 : 0 ≤ k) (h1 : k < g.as.length) : graph_Without_F g k = some (⟨g.n, less g.as k.toNat⟩, 0) := by
  unfold graph_Without_F
  have hl := hg.len
  rw [checkLong_ok hg, bind_some', if_neg (by simp), if_neg (by omega), if_neg (by omega), ck_some (by omega), ck_some (by omega), ck_some (inI_small (by omega) (by omega)), ck_some (by omega), ck_some (by omega)]
  rw [concat_eq (by rw [subl_length]; omega) (by rw [subl_length]; omega)]
  rw [show (k + 1).toNat = k.toNat + 1 by omega]
  rfl
theorem without_cases (g : Graph) (k : Int) : (∃ e, e ≠ 0 ∧ graph_Without_F g k = some (⟨0, []⟩, e)) ∨ (Ok g ∧ 0 ≤ k ∧ k < g.as.length ∧ graph_Without_F g k = some (⟨g.n, less g.as k.toNat⟩, 0)) := by
  by_cases h : checkF g (-10000) = 0
  · have hg := (checkF_ok g _).1 h
    by_cases h1 : k < 0
    · left; refine ⟨5, by omega, ?_⟩
      unfold graph_Without_F
      rw [checkLong_ok hg, bind_some', if_neg (by simp), if_pos h1]
    · by_cases h2 : (g.as.length : Int) ≤ k
      · left; refine ⟨5, by omega, ?_⟩
        unfold graph_Without_F
        rw [checkLong_ok hg, bind_some', if_neg (by simp), if_neg h1, if_pos h2]
      · right
        exact ⟨hg, by omega, by omega, without_ok hg (by omega) (by omega)⟩
  · left; refine ⟨_, h, ?_⟩
    unfold graph_Without_F
    rw [checkLong_eq, bind_some', if_pos h]
end Go.Proofs.Ytdpkdicciclobaa
