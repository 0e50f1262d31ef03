/- ColourTree: the law's function answers true. -/
import Derived.Test.YtblhoelmodbifaaPcolour
import Derived.Test.YtblhoelmodbifaaPdecode
import Derived.Test.YtblhoelmodbifaaPref
import Derived.Test.YtblhoelmodbifaaKColourTree
namespace Go.Proofs.Ytblhoelmodbifaa
open Go Go.Proofs.Ytblhoelmodbifaa.Sx
set_option linter.unusedVariables false
set_option linter.unusedSimpArgs false
theorem lineR_eq : weirkeep_line_F = some ⟨3, [⟨0, 1, 4⟩, ⟨1, 2, 3⟩]⟩ := by kernel_rfl
theorem countR_eq : colour_Count_F ⟨3, [⟨0, 1, 4⟩, ⟨1, 2, 3⟩]⟩ 3 = some (12, 0) := by kernel_rfl
theorem tot_unlike {K : Nat} {u : Int} (h : 0 ≤ u ∧ u < K) (m : Int) : tot (fun v => if u = (v : Int) then 0 else m) K = (K - 1) * m := by
  have e : tot (fun v => if u = (v : Int) then 0 else m) K = tot (fun v => m - if u = (v : Int) then m else 0) K := tot_congr fun v _ => by split <;> omega
  rw [e, tot_sub, tot_const, pick_eq h fun _ => m, Int.sub_mul, Int.one_mul]
/-- the leaves' sum -/
theorem SS_leaves {K n : Nat} {G r : List Int} {es : List Arc} (h : Leaves n G r es) (hnd : G.Nodup) : ∀ (F0 : (Int → Int) → Int), (∀ c c', (∀ x, x ∉ G → c x = c' x) → F0 c = F0 c') → ∀ c : Int → Int, (∀ x, x ∉ G → 0 ≤ x → x < n → 0 ≤ c x ∧ c x < K) →
    SS K G (fun c => FF es c * F0 c) c = ((K : Int) - 1) ^ G.length * F0 c := by
  induction h with
  | nil => intro F0 _ c _; simp [SS, FF_nil]
  | snoc h hl hk hne h0 h1 ih =>
    rename_i G r es leaf k
    intro F0 hF c hc
    have hG : G.Nodup := (List.nodup_append.1 hnd).1
    rw [SS_perm (List.perm_append_singleton leaf G) hnd]
    simp only [SS]
    have hk2 : k ∉ G ++ [leaf] := fun hm => by
      rcases List.mem_append.1 hm with hm | hm
      · exact hk hm
      · exact hne (List.mem_singleton.1 hm).symm
    have hck := hc k hk2 h1.1 h1.2
    have inner : ∀ v : Nat, v < K → SS K G (fun c => FF (es ++ [⟨min leaf k, max leaf k, 0⟩]) c * F0 c) (upd c leaf (v : Int)) = ((K : Int) - 1) ^ G.length * ((if c k = (v : Int) then 0 else 1) * F0 c) := fun v hv => by
      have e1 : SS K G (fun c => FF (es ++ [⟨min leaf k, max leaf k, 0⟩]) c * F0 c) (upd c leaf (v : Int)) = SS K G (fun c => FF es c * ((if c k = c leaf then 0 else 1) * F0 c)) (upd c leaf (v : Int)) := SS_congr fun c' => by
        rw [FF_append, FF_cons, FF_nil, Int.mul_assoc]
        congr 2
        dsimp only
        rcases Int.le_total leaf k with q | q
        · rw [Int.min_eq_left q, Int.max_eq_right q]
          by_cases z : c' k = c' leaf
          · rw [if_pos z, if_pos z.symm]
          · rw [if_neg z, if_neg (fun y => z y.symm)]
        · rw [Int.min_eq_right q, Int.max_eq_left q]
      rw [e1, ih hG (fun c => (if c k = c leaf then 0 else 1) * F0 c) (fun c c' hcc => by
        rw [hcc k hk, hcc leaf hl, hF c c' fun x hx => hcc x fun hm => hx (by simp [hm])]) _ (fun x hx x0 x1 => ?_)]
      · rw [upd_same, upd_ne _ _ (fun e => hne e.symm)]
        congr 2
        refine hF _ _ fun x hx => upd_ne _ _ fun e => hx (by simp [e])
      · by_cases e : x = leaf
        · rw [e, upd_same]; omega
        · rw [upd_ne _ _ e]
          exact hc x (fun hm => by
            rcases List.mem_append.1 hm with hm | hm
            · exact hx hm
            · exact e (List.mem_singleton.1 hm)) x0 x1
    rw [tot_congr inner, tot_mul]
    have e2 : tot (fun v => (if c k = (v : Int) then 0 else 1) * F0 c) K = tot (fun v => if c k = (v : Int) then 0 else F0 c) K := tot_congr fun v _ => by split <;> simp
    rw [e2, tot_unlike hck, ← Int.mul_assoc, List.length_append, List.length_cons, List.length_nil, Int.pow_succ]
theorem col_tree {K n : Nat} {G r : List Int} {es : List Arc} {a b : Int} (h : Leaves n G r es) (hnd : G.Nodup) (hm : ∀ x, x ∈ G → 0 ≤ x ∧ x < n) (ha : a ∉ G) (hb : b ∉ G) (hab : a < b) (a0 : 0 ≤ a) (b1 : b < n) (honly : ∀ x, 0 ≤ x → x < (n : Int) → x ∉ G → x = a ∨ x = b) :
    colN K n (es ++ [⟨a, b, 0⟩]) = (K : Int) * ((K : Int) - 1) ^ (G.length + 1) := by
  unfold colN
  have hp : (vars n).Perm (a :: b :: G) := by
    refine (List.perm_ext_iff_of_nodup (vars_nodup n) ?_).2 fun x => ?_
    · refine List.nodup_cons.2 ⟨?_, List.nodup_cons.2 ⟨hb, hnd⟩⟩
      intro hx
      rcases List.mem_cons.1 hx with hx | hx
      · omega
      · exact ha hx
    · rw [mem_vars]
      constructor
      · rintro ⟨x0, x1⟩
        by_cases hG : x ∈ G
        · simp [hG]
        · rcases honly x x0 x1 hG with rfl | rfl <;> simp
      · intro hx
        rcases List.mem_cons.1 hx with rfl | hx
        · omega
        · rcases List.mem_cons.1 hx with rfl | hx
          · omega
          · exact hm x hx
  rw [SS_perm hp (vars_nodup n)]
  simp only [SS]
  have inner : ∀ u : Nat, u < K → ∀ v : Nat, v < K → SS K G (FF (es ++ [⟨a, b, 0⟩])) (upd (upd (fun _ => 0) a (u : Int)) b (v : Int)) = ((K : Int) - 1) ^ G.length * (if (u : Int) = (v : Int) then 0 else 1) := fun u hu v hv => by
    have e1 : SS K G (FF (es ++ [⟨a, b, 0⟩])) (upd (upd (fun _ => 0) a (u : Int)) b (v : Int)) = SS K G (fun c => FF es c * (if c a = c b then 0 else 1)) (upd (upd (fun _ => 0) a (u : Int)) b (v : Int)) := SS_congr fun c' => by
      rw [FF_append, FF_cons, FF_nil]
    rw [e1, SS_leaves h hnd (fun c => if c a = c b then 0 else 1) (fun c c' hcc => by
      rw [hcc a ha, hcc b hb]) _ (fun x hx x0 x1 => ?_)]
    · rw [upd_same, upd_ne _ _ (by omega), upd_same]
    · rcases honly x x0 x1 hx with rfl | rfl
      · rw [upd_ne _ _ (by omega), upd_same]; omega
      · rw [upd_same]; omega
  have e3 : tot (fun u => tot (fun v => SS K G (FF (es ++ [⟨a, b, 0⟩])) (upd (upd (fun _ => 0) a (u : Int)) b (v : Int))) K) K = tot (fun _ => ((K : Int) - 1) ^ G.length * ((K : Int) - 1)) K := tot_congr fun u hu => by
    rw [tot_congr fun v hv => inner u hu v hv, tot_mul, tot_unlike ⟨by omega, by omega⟩, Int.mul_one]
  rw [e3, tot_const, Int.pow_succ]
theorem Leaves.good2 {n : Nat} {G r : List Int} {es : List Arc} (h : Leaves n G r es) : (∀ a, a ∈ es → (0 ≤ a.f ∧ a.f < n ∧ 0 ≤ a.t ∧ a.t < n ∧ a.c = 0)) ∧ (∀ x, x ∈ G → 0 ≤ x ∧ x < n) ∧ G.length = es.length := by
  induction h with
  | nil => exact ⟨fun a ha => absurd ha (by simp), fun x hx => absurd hx (by simp), rfl⟩
  | snoc h hl hk hne h0 h1 ih =>
    refine ⟨fun a ha => ?_, fun x hx => ?_, by simp [ih.2.2]⟩
    · rcases List.mem_append.1 ha with ha | ha
      · exact ih.1 a ha
      · obtain rfl := List.mem_singleton.1 ha
        dsimp only
        omega
    · rcases List.mem_append.1 hx with hx | hx
      · exact ih.2.1 x hx
      · obtain rfl := List.mem_singleton.1 hx
        exact h0
theorem want_loop {K : Int} (h0 : 0 ≤ K) (h1 : K < 21) : ∀ m : Nat, m ≤ 7 → forN (weirkeep_ColourTree_B1 K) m 0 K = some (K * (K - 1) ^ m) := fun m hm => by
  have small : ∀ j : Nat, j ≤ 7 → -2000000000000 ≤ K * (K - 1) ^ j ∧ K * (K - 1) ^ j ≤ 2000000000000 := fun j hj => by
    by_cases hK : K = 0
    · rw [hK, Int.zero_mul]; omega
    · have p := pow_bound (K := K - 1) (by omega) (by omega) (j := j) (by omega)
      have := Int.mul_le_mul (a := K) (b := (K - 1) ^ j) (c := 20) (d := 25600000000) (by omega) p.2 p.1 (by omega)
      have := Int.mul_nonneg h0 p.1
      omega
  obtain ⟨x, e, h⟩ := forN_inv (f := weirkeep_ColourTree_B1 K) (fun j x => x = K * (K - 1) ^ j) (n := m) (k := 0) (s := K) (by rw [Int.pow_zero, Int.mul_one]) fun j x _ hj hx => by
    have := small (j + 1) (by omega)
    have e : x * (K - 1) = K * (K - 1) ^ (j + 1) := by rw [hx, Int.pow_succ, Int.mul_assoc]
    unfold weirkeep_ColourTree_B1
    rw [ck_some (by unfold InI; omega), e, ck_some (by unfold InI; omega)]
    exact ⟨_, rfl, rfl⟩
  rw [e, h, Nat.zero_add]
theorem ColourTree_true (code : List Int) (many : Int) (hm : code.length ≤ 17592186044416) : weirkeep_ColourTree_F code many = some true := by
  unfold weirkeep_ColourTree_F
  rw [lineR_eq, bind_some', countR_eq, bind_some']
  dsimp only
  rw [if_neg (by decide), if_neg (by decide)]
  obtain ⟨K, er, r0, r1⟩ := rest_ok (n := many) (m := 21) (by omega) (by omega)
  rcases decode_cases code hm with ⟨hl, G, es, a, b, e, hL, hal, hnd, haG, hbG, hab, a0, b1, honly⟩ | ⟨_, e, he, h⟩
  · obtain ⟨hgood, hmem, hlen⟩ := hL.good2
    have hlc := hl.len
    rw [e, bind_some']
    dsimp only
    rw [er, bind_some']
    by_cases h8 : 8 < (code.length : Int) + 2
    · have hbad : ¬ OkC ⟨(code.length : Int) + 2, es ++ [⟨a, b, 0⟩]⟩ K := fun h => by have := h.n; dsimp only at this; omega
      have hok : Ok ⟨(code.length : Int) + 2, es ++ [⟨a, b, 0⟩]⟩ := ⟨by dsimp only; omega, by dsimp only; omega, by simp only [List.length_append, List.length_cons, List.length_nil]; omega, fun x hx => by
        rcases List.mem_append.1 hx with hx | hx
        · obtain ⟨q1, q2, q3, q4, q5⟩ := hgood x hx
          exact ⟨q1, by dsimp only; omega, q3, by dsimp only; omega, by omega, by omega⟩
        · obtain rfl := List.mem_singleton.1 hx
          exact ⟨a0, by dsimp only; omega, by dsimp only; omega, b1, by dsimp only; omega, by dsimp only; omega⟩⟩
      have hcount : colour_Count_F ⟨(code.length : Int) + 2, es ++ [⟨a, b, 0⟩]⟩ K = some (0, 2) := by
        unfold colour_Count_F
        rw [checkLong_ok hok, bind_some', if_neg (by decide), if_pos h8]
      rw [hcount, bind_some']
      dsimp only
      rw [if_neg (by decide), if_pos h8, if_neg (by decide)]
      rfl
    · have hok : OkC ⟨(code.length : Int) + 2, es ++ [⟨a, b, 0⟩]⟩ K := ⟨⟨by dsimp only; omega, by dsimp only; omega, by simp only [List.length_append, List.length_cons, List.length_nil]; omega, fun x hx => by
        rcases List.mem_append.1 hx with hx | hx
        · obtain ⟨q1, q2, q3, q4, q5⟩ := hgood x hx
          exact ⟨q1, by dsimp only; omega, q3, by dsimp only; omega, by omega, by omega⟩
        · obtain rfl := List.mem_singleton.1 hx
          exact ⟨a0, by dsimp only; omega, by dsimp only; omega, b1, by dsimp only; omega, by dsimp only; omega⟩⟩, by dsimp only; omega, by simp only [List.length_append, List.length_cons, List.length_nil]; omega, r0, by omega⟩
      rw [count_ok hok, bind_some']
      dsimp only
      have key := col_tree (K := K.toNat) (n := code.length + 2) (a := a) (b := b) hL hnd hmem haG hbG hab a0 (by omega) (fun x x0 x1 hx => honly x x0 (by omega) hx)
      rw [show ((K.toNat : Nat) : Int) = K by omega] at key
      rw [if_neg (by decide), if_neg h8, want_loop r0 r1 _ (by simp only [List.length_append, List.length_cons, List.length_nil]; omega), bind_some', if_pos rfl, show ((code.length : Int) + 2).toNat = code.length + 2 by omega, key, List.length_append, List.length_cons, List.length_nil, ← hlen]
      exact congrArg some (decide_eq_true rfl)
  · rw [h, bind_some']
    dsimp only
    rw [er, bind_some']
    obtain ⟨c, x, hc⟩ : ∃ c x, colour_Count_F ⟨0, []⟩ K = some (c, x) := by
      by_cases hk : OkC ⟨0, []⟩ K
      · exact ⟨_, _, count_ok hk⟩
      · obtain ⟨e, _, h⟩ := count_bad hk
        exact ⟨_, _, h⟩
    rw [hc, bind_some']
    dsimp only
    rw [if_pos he, if_pos he]
end Go.Proofs.Ytblhoelmodbifaa
