/- TreeTimes: the law's function answers true. -/
import Derived.Test.YtblhoelmodbifaaPdecode
import Derived.Test.YtblhoelmodbifaaKTreeTimes
namespace Go.Proofs.Ytblhoelmodbifaa
open Go Go.Proofs.Ytblhoelmodbifaa.Sx
set_option linter.unusedVariables false
set_option linter.unusedSimpArgs false
theorem decode_nil : tree_Decode_F [] = some (⟨2, [⟨0, 1, 0⟩]⟩, 0) := by kernel_rfl
theorem degrees_none : graph_Degrees_F ⟨0, []⟩ = some ([], [], 1) := by kernel_rfl
theorem minmax (a b x : Int) (h : a ≠ b) : (if min a b = x then (1 : Int) else 0) + (if max a b = x then 1 else 0) = (if a = x then 1 else 0) + (if b = x then 1 else 0) := by
  rcases Int.le_total a b with h1 | h1
  · rw [Int.min_eq_left h1, Int.max_eq_right h1]
  · rw [Int.min_eq_right h1, Int.max_eq_left h1]; omega
theorem Leaves.deg {n : Nat} {G r : List Int} {es : List Arc} (h : Leaves n G r es) (x : Int) : outs es x + inns es x = occ G x + occ r x := by
  induction h with
  | nil => rfl
  | snoc h hl hk hne h0 h1 ih =>
    rename_i leaf k
    rw [outs_snoc, inns_snoc, occ_snoc, occ_snoc]
    have := minmax leaf k x hne
    dsimp only at this ⊢
    omega
theorem Leaves.good {n : Nat} {G r : List Int} {es : List Arc} (h : Leaves n G r es) : ∀ a, a ∈ es → (0 ≤ a.f ∧ a.f < n ∧ 0 ≤ a.t ∧ a.t < n ∧ a.c = 0) := by
  induction h with
  | nil => intro a ha; cases ha
  | snoc h hl hk hne h0 h1 ih =>
    intro a ha
    rcases List.mem_append.1 ha with ha | ha
    · exact ih a ha
    · obtain rfl := List.mem_singleton.1 ha
      dsimp only
      omega
theorem occ_nodup {G : List Int} (h : G.Nodup) (x : Int) : occ G x = if x ∈ G then 1 else 0 := by
  induction G with
  | nil => rfl
  | cons a G ih =>
    obtain ⟨h1, h2⟩ := List.nodup_cons.1 h
    rw [occ_cons, ih h2]
    by_cases e : a = x
    · subst e; simp [h1]
    · have : ¬ x = a := fun z => e z.symm
      simp [e, this]
theorem count_loop2 (l : List Int) (x : Nat) (hl : l.length ≤ 1000) : ∃ m : Nat, forN (weirkeep_TreeTimes_B2 l x) l.length 0 0 = some m ∧ (m : Int) = occ l x := by
  obtain ⟨m, e, h⟩ := forN_inv (f := weirkeep_TreeTimes_B2 l x) (fun j m => (m : Int) = occ (l.take j) x) (n := l.length) (k := 0) (s := 0) rfl fun j m _ hj hm => by
    have hj' : j < l.length := by omega
    have ht : l.take (j + 1) = l.take j ++ [l.getD j 0] := by
      rw [List.take_succ_eq_append_getElem hj']; simp [List.getD_eq_getElem?_getD, hj']
    have hb := occ_le (l.take j) (x : Int)
    have hb2 : (l.take j).length ≤ 1000 := by rw [List.length_take]; omega
    unfold weirkeep_TreeTimes_B2
    rw [ht, occ_snoc]
    by_cases e : l.getD j 0 = (x : Int)
    · exact ⟨m + 1, by rw [if_pos e, ck_some (inI_small (by omega) (by omega))], by rw [if_pos e]; omega⟩
    · exact ⟨m, by rw [if_neg e], by rw [if_neg e]; omega⟩
  rw [Nat.zero_add, List.take_of_length_le (Nat.le_refl _)] at h
  exact ⟨m, e, h⟩
theorem TreeTimes_true (l : List Int) (hm : l.length ≤ 17592186044416) : weirkeep_TreeTimes_F l = some true := by
  unfold weirkeep_TreeTimes_F
  rw [decode_nil, bind_some']
  dsimp only
  rw [if_neg (by decide), if_neg (by decide), if_neg (by decide)]
  rcases decode_cases l hm with ⟨hl, G, es, a, b, e, hL, hal, hnd, haG, hbG, hab, a0, b1, honly⟩ | ⟨_, e, he, h⟩
  · have hlen := hl.len
    have hgood := hL.good
    have hok : Ok ⟨(l.length : Int) + 2, es ++ [⟨a, b, 0⟩]⟩ := ⟨by dsimp only; omega, by dsimp only; omega, by simp only [List.length_append, List.length_cons, List.length_nil]; omega, fun x hx => by
      rcases List.mem_append.1 hx with hx | hx
      · obtain ⟨q1, q2, q3, q4, q5⟩ := hgood x hx
        exact ⟨q1, by dsimp only; omega, q3, by dsimp only; omega, by omega, by omega⟩
      · obtain rfl := List.mem_singleton.1 hx
        exact ⟨a0, by dsimp only; omega, by dsimp only; omega, b1, by dsimp only; omega, by dsimp only; omega⟩⟩
    rw [e, bind_some']
    dsimp only
    rw [degrees_ok hok, bind_some']
    dsimp only
    rw [if_neg (by decide), if_neg (by decide), ck_some (inI_small (by omega) (by omega)), nodes_len, nodes_len, if_neg (by omega), if_neg (by omega)]
    have hloop : forC (weirkeep_TreeTimes_B1 l (nodes (outs (es ++ [⟨a, b, 0⟩])) ((l.length : Int) + 2)) (nodes (inns (es ++ [⟨a, b, 0⟩])) ((l.length : Int) + 2))) ((l.length : Int) + 2).toNat 0 () = some (.go ()) := forC_all fun j _ hj => by
      have hj' : j < ((l.length : Int) + 2).toNat := by omega
      obtain ⟨m, em, hmm⟩ := count_loop2 l j (by omega)
      unfold weirkeep_TreeTimes_B1
      have d := hL.deg (j : Int)
      have b1' := outs_le (es ++ [(⟨a, b, 0⟩ : Arc)]) (j : Int); have b2' := inns_le (es ++ [(⟨a, b, 0⟩ : Arc)]) (j : Int)
      have hsum : outs (es ++ [⟨a, b, 0⟩]) (j : Int) + inns (es ++ [⟨a, b, 0⟩]) (j : Int) = occ l j + 1 := by
        rw [outs_snoc, inns_snoc]
        dsimp only
        rw [occ_nodup hnd] at d
        by_cases hG : (j : Int) ∈ G
        · have q1 : a ≠ j := fun z => haG (z ▸ hG)
          have q2 : b ≠ j := fun z => hbG (z ▸ hG)
          rw [if_pos hG] at d
          rw [if_neg q1, if_neg q2]; omega
        · rw [if_neg hG] at d
          rcases honly j (by omega) (by omega) hG with q | q
          · rw [if_pos q.symm, if_neg (by omega)]; omega
          · rw [if_neg (by omega), if_pos q.symm]; omega
      have ho := occ_le l (j : Int)
      simp only [List.length_append, List.length_cons, List.length_nil] at b1' b2'
      rw [em, bind_some', nodes_len, ck_some hj', nodes_getD _ hj', nodes_getD _ hj', ck_some (inI_small (by omega) (by omega)), ck_some (inI_small (by omega) (by omega)), if_neg (by omega)]
    rw [hloop]
    rfl
  · rw [h, bind_some']
    dsimp only
    rw [degrees_none, bind_some']
    dsimp only
    rw [if_pos he]; rfl
end Go.Proofs.Ytblhoelmodbifaa
