/- The helpers of the laws: what they answer. -/
import Derived.Test.YtmgldjkgneiejaaPgraph
import Derived.Test.YtmgldjkgneiejaaGkeep
namespace Go.Proofs.Ytmgldjkgneiejaa
open Go Go.Proofs.Ytmgldjkgneiejaa.Sx
set_option linter.unusedVariables false
set_option linter.unusedSimpArgs false
theorem line_eq : weirkeep_line_F = some ⟨3, [⟨0, 1, 4⟩, ⟨1, 2, 3⟩]⟩ := by kernel_rfl
theorem sum_nodes (f : Int → Int) (n : Int) (h : ∀ j, j ≤ n.toNat → InI (tot (fun i => f i) j)) : weirkeep_sum_F (nodes f n) = some (tot (fun i => f i) n.toNat) := by
  have e : ∀ j, j ≤ n.toNat → tot (fun i => (nodes f n).getD i 0) j = tot (fun i => f i) j := fun j hj => tot_congr fun i hi => nodes_getD f (by omega)
  unfold weirkeep_sum_F
  rw [sum_loop (f := weirkeep_sum_B1 (nodes f n)) (nodes f n) (fun k x => rfl) fun j hj => by
    rw [nodes_len] at hj
    rw [e j hj]; exact h j hj]
  show some (lsum _) = _
  rw [lsum, nodes_len, e _ (Nat.le_refl _)]
theorem outs_cons (a : Arc) (l : List Arc) (i : Int) : outs (a :: l) i = (if a.f = i then 1 else 0) + outs l i := by
  unfold outs; rw [List.countP_cons]; by_cases h : a.f = i <;> simp [h] <;> omega
theorem inns_cons (a : Arc) (l : List Arc) (i : Int) : inns (a :: l) i = (if a.t = i then 1 else 0) + inns l i := by
  unfold inns; rw [List.countP_cons]; by_cases h : a.t = i <;> simp [h] <;> omega
theorem tot_one {a n : Int} (h0 : 0 ≤ a) (h1 : a < n) : tot (fun i => if a = (i : Int) then 1 else 0) n.toNat = 1 := by
  rw [tot_single (k := a.toNat) (by omega) fun i _ hne => if_neg (by omega), if_pos (by omega)]
theorem tot_outs {n least : Int} : ∀ {l : List Arc}, (∀ a, a ∈ l → Good n least a) → tot (fun i => outs l i) n.toNat = l.length
  | [], _ => tot_zero fun _ _ => rfl
  | a :: l, h => by
    have ha := h a (by simp)
    rw [tot_congr fun i _ => outs_cons a l i, tot_add, tot_one ha.f0 ha.f1, tot_outs fun b hb => h b (by simp [hb])]
    simp; omega
theorem tot_inns {n least : Int} : ∀ {l : List Arc}, (∀ a, a ∈ l → Good n least a) → tot (fun i => inns l i) n.toNat = l.length
  | [], _ => tot_zero fun _ _ => rfl
  | a :: l, h => by
    have ha := h a (by simp)
    rw [tot_congr fun i _ => inns_cons a l i, tot_add, tot_one ha.t0 ha.t1, tot_inns fun b hb => h b (by simp [hb])]
    simp; omega
theorem tot_small {f : Nat → Int} {b : Int} {m : Nat} (h : ∀ i, 0 ≤ f i ∧ f i ≤ b) (hb : 0 ≤ b) (hm : m ≤ 12) (hb2 : b ≤ 1000000) : InI (tot f m) := by
  have h1 := tot_nonneg (f := f) (n := m) fun i _ => (h i).1
  have h2 := tot_le (f := f) (g := fun _ => b) (n := m) fun i _ => (h i).2
  rw [tot_const] at h2
  have h3 : (m : Int) * b ≤ 12 * b := Int.mul_le_mul_of_nonneg_right (by omega) hb
  exact inI_small (by omega) (by omega)
end Go.Proofs.Ytmgldjkgneiejaa
