/- Package tree: det answers the determinant, and what Det answers. -/
import Derived.Test.YtdpkdicciclobaaPbar
import Derived.Test.YtdpkdicciclobaaPgraph
import Derived.Test.YtdpkdicciclobaaGtree
namespace Go.Proofs.Ytdpkdicciclobaa
open Go Go.Proofs.Ytdpkdicciclobaa.Sx
set_option linter.unusedVariables false
set_option linter.unusedSimpArgs false
def gm (t : List (List Int)) (i j : Nat) : Int := (t.getD i []).getD j 0
structure Sqr (n : Nat) (t : List (List Int)) : Prop where
  len : t.length = n
  row : ∀ i, i < n → (t.getD i []).length = n
theorem gm_set {t : List (List Int)} {i j : Nat} {v : Int} (hi : i < t.length) (hj : j < (t.getD i []).length) (r c : Nat) : gm (t.set i ((t.getD i []).set j v)) r c = if r = i ∧ c = j then v else gm t r c := by
  unfold gm
  rw [getD_set']
  by_cases w : r = i
  · subst w
    rw [if_pos ⟨rfl, hi⟩, getD_set']
    by_cases z : c = j
    · rw [if_pos ⟨z, hj⟩, if_pos ⟨rfl, z⟩]
    · rw [if_neg fun q => z q.1, if_neg fun q => z q.2]
  · rw [if_neg fun q => w q.1, if_neg fun q => w q.1]
theorem Sqr.set {n : Nat} {t : List (List Int)} (h : Sqr n t) {i : Nat} {v : List Int} (hv : v.length = n) : Sqr n (t.set i v) := by
  refine ⟨by rw [List.length_set, h.len], fun r hr => ?_⟩
  rw [getD_set']
  split
  · exact hv
  · exact h.row r hr
theorem abs_le {x : Int} {b : Nat} (h : x.natAbs ≤ b) : -(b : Int) ≤ x ∧ x ≤ (b : Int) := by omega
theorem mul_small {x y : Int} (hx : x.natAbs ≤ 2 ^ 30) (hy : y.natAbs ≤ 2 ^ 30) : -(2 ^ 60) ≤ x * y ∧ x * y ≤ 2 ^ 60 := by
  have h : (x * y).natAbs ≤ 2 ^ 30 * 2 ^ 30 := by rw [Int.natAbs_mul]; exact Nat.mul_le_mul hx hy
  have := abs_le h
  omega
theorem tdiv_small (x y : Int) : (Int.tdiv x y).natAbs ≤ x.natAbs := by
  rw [Int.natAbs_tdiv]; exact Nat.div_le_self ..
section
variable {a : List (List Int)} {n : Nat}
theorem det_pivot {g : List (List Int)} {k : Nat} (ha : a.length = n) (hn : n ≤ 1000) (h : Sqr n g) (hk : k < n) :
    ∃ p, loopC (tree_det_B2 a k g) 1000000 k = some (.go p) ∧ k ≤ p ∧ p ≤ n ∧ (p < n → gm g p k ≠ 0) ∧ ∀ i, k ≤ i → i < p → gm g i k = 0 := by
  obtain ⟨q, e, hq⟩ := loopC_or (f := tree_det_B2 a k g) (fun s => k ≤ s ∧ s ≤ n ∧ ∀ i, k ≤ i → i < s → gm g i k = 0)
    (fun q => match q with | .go p => k ≤ p ∧ p ≤ n ∧ (p < n → gm g p k ≠ 0) ∧ ∀ i, k ≤ i → i < p → gm g i k = 0 | .ret _ => False) (fun s => n - s)
    (fun s ⟨i1, i2, i3⟩ => by
      unfold tree_det_B2
      by_cases c : ((s : Nat) : Int) < ((a.length : Nat) : Int)
      · have hs : s < n := by omega
        have e1 : (g.getD s []).getD k (0 : Int) = gm g s k := rfl
        rw [if_pos c, ck_some (by rw [h.len]; exact hs), ck_some (by rw [h.row s hs]; exact hk), e1]
        by_cases z : gm g s k = 0
        · rw [if_pos z, ck_some (inI_small (by omega) (by omega))]
          refine .inl ⟨_, rfl, ⟨by omega, by omega, fun i h1 h2 => ?_⟩, by omega⟩
          by_cases w : i = s
          · rw [w]; exact z
          · exact i3 i h1 (by omega)
        · rw [if_neg z]
          exact .inr (.inl ⟨_, rfl, i1, i2, fun _ => z, i3⟩)
      · rw [if_neg c]
        exact .inr (.inl ⟨_, rfl, i1, i2, fun w => absurd w (by omega), i3⟩)) (n := 1000000) (s := k) ⟨Nat.le_refl _, by omega, fun i h1 h2 => absurd h1 (by omega)⟩ (by omega)
  match q, hq with
  | .go p, hq => exact ⟨p, e, hq⟩
/-- what a step makes of an entry -/
def nw (A : Nat → Nat → Int) (k : Nat) (last : Int) (r c : Nat) : Int := Int.tdiv (A r c * A k k - A r k * A k c) last
def Mid (n k : Nat) (A : Nat → Nat → Int) (last : Int) (i m : Nat) (t : List (List Int)) : Prop :=
  Sqr n t ∧ ∀ r c, r < n → c < n → gm t r c = if k < r ∧ k < c ∧ (r < i ∨ r = i ∧ c < m) then nw A k last r c else A r c
theorem det_row {A : Nat → Nat → Int} {k i : Nat} {last : Int} {t : List (List Int)} (ha : a.length = n) (hn : n ≤ 1000) (hl : last ≠ 0) (hki : k < i) (hi : i < n) (hb : ∀ r c, k ≤ r → r < n → k ≤ c → c < n → (A r c).natAbs ≤ 2 ^ 30)
    (h : Mid n k A last i (k + 1) t) : ∃ t', loopC (tree_det_B4 a k last i) 1000000 (t, k + 1) = some (.go (t', n)) ∧ Mid n k A last i n t' := by
  obtain ⟨q, e, hq⟩ := loopC_or (f := tree_det_B4 a k last i) (fun s => k < s.2 ∧ s.2 ≤ n ∧ Mid n k A last i s.2 s.1)
    (fun q => match q with | .go s => s.2 = n ∧ Mid n k A last i n s.1 | .ret _ => False) (fun s => n - s.2)
    (fun s ⟨i1, i2, i3⟩ => by
      obtain ⟨t, m⟩ := s
      dsimp only at i1 i2 i3
      unfold tree_det_B4
      dsimp only
      by_cases c : ((m : Nat) : Int) < ((a.length : Nat) : Int)
      · have hm : m < n := by omega
        have r1 := i3.1.row i hi
        have r2 := i3.1.row k (by omega)
        have e1 : (t.getD i []).getD m (0 : Int) = A i m := Eq.trans (i3.2 i m hi hm) (if_neg (by omega))
        have e2 : (t.getD k []).getD k (0 : Int) = A k k := Eq.trans (i3.2 k k (by omega) (by omega)) (if_neg (by omega))
        have e3 : (t.getD i []).getD k (0 : Int) = A i k := Eq.trans (i3.2 i k hi (by omega)) (if_neg (by omega))
        have e4 : (t.getD k []).getD m (0 : Int) = A k m := Eq.trans (i3.2 k m (by omega) hm) (if_neg (by omega))
        have b1 := mul_small (hb i m (by omega) hi (by omega) hm) (hb k k (by omega) (by omega) (by omega) (by omega))
        have b2 := mul_small (hb i k (by omega) hi (by omega) (by omega)) (hb k m (by omega) (by omega) (by omega) hm)
        have b3 := tdiv_small (A i m * A k k - A i k * A k m) last
        have b4 : (Int.tdiv (A i m * A k k - A i k * A k m) last).natAbs ≤ 2 ^ 61 := Nat.le_trans b3 (by omega)
        have b5 := abs_le b4
        have L := i3.1.len
        rw [if_pos c, ck_some (by omega), ck_some (by omega), ck_some (by omega), ck_some (by omega), e1, e2, e3, e4, ck_some (by unfold InI; omega), ck_some (by omega), ck_some (by omega), ck_some (by unfold InI; omega), ck_some (by unfold InI; omega), ck_some hl, ck_some (by unfold InI; omega), ck_some (inI_small (by omega) (by omega))]
        refine .inl ⟨_, rfl, ⟨by dsimp only; omega, by dsimp only; omega, i3.1.set (by rw [List.length_set, r1]), fun r c hr hc => ?_⟩, by dsimp only; omega⟩
        rw [gm_set (by omega) (by omega), i3.2 r c hr hc]
        by_cases w : r = i ∧ c = m
        · rw [if_pos w, w.1, w.2, if_pos (by omega)]; rfl
        · rw [if_neg w]
          by_cases z : k < r ∧ k < c ∧ (r < i ∨ r = i ∧ c < m)
          · rw [if_pos z, if_pos (by omega)]
          · rw [if_neg z, if_neg (by omega)]
      · rw [if_neg c]
        have : m = n := by omega
        subst this
        exact .inr (.inl ⟨_, rfl, rfl, i3⟩)) (n := 1000000) (s := (t, k + 1)) ⟨by dsimp only; omega, by dsimp only; omega, h⟩ (by dsimp only; omega)
  match q, hq with
  | .go (t', m), ⟨h1, h2⟩ =>
    dsimp only at h1
    subst h1
    exact ⟨t', e, h2⟩
theorem det_rows {A : Nat → Nat → Int} {k : Nat} {last : Int} {t : List (List Int)} (ha : a.length = n) (hn : n ≤ 1000) (hl : last ≠ 0) (hk : k < n) (hb : k + 1 < n → ∀ r c, k ≤ r → r < n → k ≤ c → c < n → (A r c).natAbs ≤ 2 ^ 30)
    (h : Mid n k A last (k + 1) 0 t) : ∃ t', loopC (tree_det_B3 a k last) 1000000 (t, k + 1) = some (.go (t', n)) ∧ Mid n k A last n 0 t' := by
  obtain ⟨q, e, hq⟩ := loopC_or (f := tree_det_B3 a k last) (fun s => k < s.2 ∧ s.2 ≤ n ∧ Mid n k A last s.2 0 s.1)
    (fun q => match q with | .go s => s.2 = n ∧ Mid n k A last n 0 s.1 | .ret _ => False) (fun s => n - s.2)
    (fun s ⟨i1, i2, i3⟩ => by
      obtain ⟨t, i⟩ := s
      dsimp only at i1 i2 i3
      unfold tree_det_B3
      dsimp only
      by_cases c : ((i : Nat) : Int) < ((a.length : Nat) : Int)
      · have hi : i < n := by omega
        obtain ⟨t', e1, h1⟩ := det_row (t := t) ha hn hl i1 hi (hb (by omega)) ⟨i3.1, fun r c hr hc => by
          rw [i3.2 r c hr hc]
          by_cases z : k < r ∧ k < c ∧ (r < i ∨ r = i ∧ c < 0)
          · rw [if_pos z, if_pos (by omega)]
          · rw [if_neg z, if_neg (by omega)]⟩
        rw [if_pos c, e1, bind_some']
        dsimp only
        rw [ck_some (inI_small (by omega) (by omega))]
        refine .inl ⟨_, rfl, ⟨by dsimp only; omega, by dsimp only; omega, h1.1, fun r c hr hc => ?_⟩, by dsimp only; omega⟩
        rw [h1.2 r c hr hc]
        by_cases z : k < r ∧ k < c ∧ (r < i ∨ r = i ∧ c < n)
        · rw [if_pos z, if_pos (by dsimp only; omega)]
        · rw [if_neg z, if_neg (by dsimp only; omega)]
      · rw [if_neg c]
        have : i = n := by omega
        subst this
        exact .inr (.inl ⟨_, rfl, rfl, i3⟩)) (n := 1000000) (s := (t, k + 1)) ⟨by dsimp only; omega, by dsimp only; omega, h⟩ (by dsimp only; omega)
  match q, hq with
  | .go (t', m), ⟨h1, h2⟩ =>
    dsimp only at h1
    subst h1
    exact ⟨t', e, h2⟩
end
/-- det answers the determinant, as long as the numbers on the way are small -/
theorem tree_det_eq {n : Nat} {g0 : List (List Int)} (P : (Nat → Nat → Int) → Prop) (h0 : Sqr n g0) (hn : n ≤ 1000) (hP : P (gm g0)) (hs : ∀ M p k, p < n → k < n → P M → P (rswap M p k))
    (hb : ∀ M, P M → ∀ k i j, k + 1 < n → k ≤ i → i < n → k ≤ j → j < n → (dt (k + 1) fun x y => M (if x < k then x else i) (if y < k then y else j)).natAbs ≤ 2 ^ 30) (hd : ∀ M, P M → (dt n M).natAbs ≤ 2 ^ 62) : tree_det_F g0 = some (dt n (gm g0)) := by
  unfold tree_det_F
  obtain ⟨q, e, hq⟩ := forC_or (f := tree_det_B1 g0) (fun k s => ∃ M, P M ∧ Sqr n s.1 ∧ Bar n k M (gm s.1) s.2.2 ∧ (s.2.1 = 1 ∨ s.2.1 = -1) ∧ s.2.1 * dt n M = dt n (gm g0))
    (fun q => match q with | .go s => (s.2.1 * s.2.2).natAbs ≤ 2 ^ 62 ∧ s.2.1 * s.2.2 = dt n (gm g0) | .ret r => r = dt n (gm g0)) (n := g0.length) (k := 0) (s := (g0, (1 : Int), (1 : Int)))
    ⟨gm g0, hP, h0, bar_zero n _, .inl rfl, by dsimp only; omega⟩ (fun k s _ hk ⟨M, p1, p2, p3, p4, p5⟩ => by
      obtain ⟨g, x4, last⟩ := s
      dsimp only at p2 p3 p4 p5
      have hk' : k < n := by rw [h0.len] at hk; omega
      unfold tree_det_B1
      dsimp only
      obtain ⟨p, e1, k1, k2, k3, k4⟩ := det_pivot h0.len hn p2 hk'
      rw [e1, bind_some']
      dsimp only
      by_cases c : ((p : Nat) : Int) = ((g0.length : Nat) : Int)
      · rw [if_pos c]
        have hp : p = n := by rw [h0.len] at c; omega
        refine .inr (.inr ⟨_, rfl, ?_⟩)
        have := bar_none p3 hk' fun i h1 h2 => k4 i h1 (by omega)
        rw [← p5, this]; omega
      rw [if_neg c]
      have hp : p < n := by rw [h0.len] at c; omega
      -- the rows exchanged
      obtain ⟨g2, x5, M2, e2, q1, q2, q3, q4, q5, q6⟩ : ∃ g2 x5 M2, ((if ((p : Nat) : Int) ≠ ((k : Nat) : Int) then ck (k < g.length) <| ck (p < g.length) <| ck (InI (-x4)) <| some (((g.set p (g.getD k [])).set k (g.getD p [])), (-x4)) else some (g, x4)) : Option ((List (List Int)) × Int)) = some (g2, x5) ∧ P M2 ∧ Sqr n g2 ∧ Bar n k M2 (gm g2) last ∧ (x5 = 1 ∨ x5 = -1) ∧ x5 * dt n M2 = dt n (gm g0) ∧ gm g2 k k ≠ 0 := by
        by_cases w : p = k
        · rw [if_neg (by omega)]
          subst w
          exact ⟨g, x4, M, rfl, p1, p2, p3, p4, p5, k3 hp⟩
        · have hg : gm ((g.set p (g.getD k [])).set k (g.getD p [])) = rswap (gm g) p k := by
            funext r c
            unfold gm rswap
            rw [getD_set', List.length_set, p2.len]
            by_cases z : r = k
            · rw [if_pos ⟨z, hk'⟩, if_neg (by omega), if_pos z]
            · rw [if_neg fun q => z q.1, getD_set', p2.len]
              by_cases y : r = p
              · rw [if_pos ⟨y, hp⟩, if_pos y]
              · rw [if_neg fun q => y q.1, if_neg y, if_neg z]
          have hx : InI (-x4) := inI_small (by omega) (by omega)
          rw [if_pos (by omega), ck_some (by rw [p2.len]; exact hk'), ck_some (by rw [p2.len]; exact hp), ck_some hx]
          refine ⟨_, _, rswap M p k, rfl, hs M p k hp hk' p1, (p2.set (p2.row k hk')).set (p2.row p hp), by rw [hg]; exact bar_swap p3 k1 hp hk', by omega, ?_, ?_⟩
          · rw [dt_rswap hp hk' w, ← p5, Int.neg_mul_neg]
          · rw [hg]
            unfold rswap
            rw [if_neg (by omega), if_pos rfl]
            exact k3 hp
      rw [e2, bind_some']
      dsimp only
      have hb' : k + 1 < n → ∀ r c, k ≤ r → r < n → k ≤ c → c < n → (gm g2 r c).natAbs ≤ 2 ^ 30 := fun h1 r c hr hrn hc hcn => by
        rw [bar_entry q3 hr hrn hc hcn]
        exact hb M2 q1 k r c h1 hr hrn hc hcn
      obtain ⟨t', e3, m1, m2⟩ := det_rows (A := gm g2) (t := g2) h0.len hn q3.ne hk' hb' ⟨q2, fun r c hr hc => (if_neg (by omega)).symm⟩
      have hkk : gm t' k k = gm g2 k k := Eq.trans (m2 k k hk' hk') (if_neg (by omega))
      have hkk' : (t'.getD k []).getD k (0 : Int) = gm g2 k k := hkk
      rw [e3, bind_some']
      dsimp only
      rw [ck_some (by rw [m1.len]; exact hk'), ck_some (by rw [m1.row k hk']; exact hk'), hkk']
      refine .inl ⟨_, rfl, M2, q1, m1, bar_step q3 hk' q6 fun i j hi hin hj hjn => ?_, q4, q5⟩
      rw [m2 i j hin hjn, if_pos (by omega)]
      obtain ⟨w, hw⟩ := bar_exact q3 hk' (show k ≤ i by omega) hin (show k ≤ j by omega) hjn
      unfold nw
      rw [hw, Int.mul_tdiv_cancel _ q3.ne]) (fun s ⟨M, p1, p2, p3, p4, p5⟩ => by
      rw [Nat.zero_add, h0.len] at p3
      dsimp only
      rw [← bar_end p3]
      refine ⟨?_, p5⟩
      have := hd M p1
      rcases p4 with w | w
      · rw [w, Int.one_mul]; exact this
      · rw [w, Int.neg_mul, Int.one_mul, Int.natAbs_neg]; exact this)
  rw [e, bind_some']
  match q, hq with
  | .ret r, h => dsimp only; rw [h]
  | .go (g, x, y), ⟨h1, h2⟩ =>
    dsimp only at h1 h2 ⊢
    have := abs_le h1
    rw [ck_some (by unfold InI; omega), h2]
/-! ### Det -/
structure DetOk (m : List (List Int)) : Prop where
  len : m.length ≤ 7
  sq : Sqr m.length m
  b : ∀ i j, i < m.length → j < m.length → -9 ≤ gm m i j ∧ gm m i j ≤ 9
theorem csum_small {a : Nat → Nat → Int} {c B : Nat} : ∀ {n : Nat}, (∀ i, i < n → (a i c).natAbs ≤ B) → csum a c n ≤ n * B
  | 0, _ => Nat.zero_le _
  | n + 1, h => by
    have := csum_small (n := n) fun i hi => h i (by omega)
    have := h n (by omega)
    rw [csum, Nat.add_mul]; omega
theorem cpr_const (B : Nat) : ∀ n : Nat, cpr (fun _ => B) n = B ^ n
  | 0 => rfl
  | n + 1 => by rw [cpr, cpr_const B n, Nat.pow_succ]
theorem fact_bound : ∀ (n : Nat) (a : Nat → Nat → Int), (∀ i j, i < n → j < n → (a i j).natAbs ≤ 9) → (dt n a).natAbs ≤ cpr (fun c => (c + 1) * 9) n
  | 0, _, _ => by simp [dt, cpr]
  | n + 1, a, h => by
    rw [dt_succ, cpr, Nat.mul_comm]
    refine Nat.le_trans (tot_natAbs (a := a) (B := cpr (fun c => (c + 1) * 9) n) fun i hi => ?_) (Nat.mul_le_mul (csum_small fun i hi => h i 0 hi (by omega)) (Nat.le_refl _))
    rw [Int.natAbs_mul, Int.natAbs_mul, show (sg i).natAbs = 1 by unfold sg; split <;> rfl, Nat.one_mul]
    exact Nat.mul_le_mul (Nat.le_refl _) (fact_bound n _ fun r c hr hc => h _ _ (skip_le hr) (by omega))
theorem fact_small : ∀ n, n ≤ 6 → cpr (fun c => (c + 1) * 9) n ≤ 2 ^ 30 := by decide
theorem fact_small7 : ∀ n, n ≤ 7 → cpr (fun c => (c + 1) * 9) n ≤ 2 ^ 36 := by decide
theorem det_ok {m : List (List Int)} (h : DetOk m) : tree_det_F m = some (dt m.length (gm m)) := by
  have hl := h.len
  refine tree_det_eq (fun M => ∀ i j, i < m.length → j < m.length → (M i j).natAbs ≤ 9) h.sq (by omega) (fun i j hi hj => by have := h.b i j hi hj; omega) (fun M p k hp hk hM i j hi hj => ?_) (fun M hM k i j hk hi hin hj hjn => ?_) fun M hM => ?_
  · refine hM _ j ?_ hj
    split
    · exact hk
    · split <;> omega
  · refine Nat.le_trans (fact_bound _ _ fun r c hr hc => hM _ _ (by split <;> omega) (by split <;> omega)) (fact_small _ (by omega))
  · exact Nat.le_trans (fact_bound _ _ fun r c hr hc => hM _ _ hr hc) (Nat.le_trans (fact_small7 _ hl) (by decide))
theorem dt_small {m : List (List Int)} (h : DetOk m) : (dt m.length (gm m)).natAbs ≤ 2 ^ 36 :=
  Nat.le_trans (fact_bound _ _ fun r c hr hc => by have := h.b r c hr hc; omega) (fact_small7 _ h.len)
theorem clone_ints {l : List Int} (h : l.length ≤ 1000000000) : slices_Clone_int_F l = some l := by
  unfold slices_Clone_int_F
  rw [ck_some (by omega), List.nil_append]
theorem Det_eq (m : List (List Int)) : (DetOk m → tree_Det_F m = some (dt m.length (gm m), 0)) ∧ (¬ DetOk m → ∃ e, e ≠ 0 ∧ tree_Det_F m = some (0, e)) := by
  by_cases c7 : (7 : Int) < ((m.length : Nat) : Int)
  · refine ⟨fun h => absurd h.len (by omega), fun _ => ⟨2, by decide, ?_⟩⟩
    unfold tree_Det_F
    rw [if_pos c7]
  obtain ⟨q, e, hq⟩ := forC_or (f := tree_Det_B1 m) (fun k g => g.length = m.length ∧ (∀ i, i < k → (m.getD i []).length = m.length ∧ g.getD i [] = m.getD i [] ∧ ∀ j, j < m.length → -9 ≤ gm m i j ∧ gm m i j ≤ 9))
    (fun q => match q with | .go g => g = m ∧ DetOk m | .ret r => r.1 = 0 ∧ r.2 ≠ 0 ∧ ¬ DetOk m) (n := m.length) (k := 0) (s := List.replicate (((m.length : Nat) : Int).toNat) ([] : List Int))
    ⟨by rw [List.length_replicate, Int.toNat_natCast], fun i hi => absurd hi (by omega)⟩ (fun k g _ hk ⟨i1, i2⟩ => by
      have hk' : k < m.length := by omega
      unfold tree_Det_B1
      by_cases c : (((m.getD k []).length : Nat) : Int) ≠ ((m.length : Nat) : Int)
      · rw [if_pos c]
        exact .inr (.inr ⟨_, rfl, rfl, by decide, fun h => c (by rw [h.sq.row k hk'])⟩)
      rw [if_neg c]
      have hl : (m.getD k []).length = m.length := by omega
      obtain ⟨q2, e2, hq2⟩ := forC_or (f := tree_Det_B2 m k) (fun l _ => ∀ j, j < l → -9 ≤ gm m k j ∧ gm m k j ≤ 9)
        (fun q => match q with | .go _ => ∀ j, j < m.length → -9 ≤ gm m k j ∧ gm m k j ≤ 9 | .ret r => ∃ x, r = .ret x ∧ x.1 = 0 ∧ x.2 ≠ 0 ∧ ¬ DetOk m) (n := (m.getD k []).length) (k := 0) (s := ()) (fun j hj => absurd hj (by omega)) (fun l _ _ hl2 i3 => by
          unfold tree_Det_B2
          have e1 : (m.getD k []).getD l (0 : Int) = gm m k l := rfl
          rw [e1]
          by_cases d1 : gm m k l < -9
          · rw [if_pos d1]
            exact .inr (.inr ⟨_, rfl, _, rfl, rfl, by decide, fun h => absurd (h.b k l hk' (by omega)) (by omega)⟩)
          by_cases d2 : 9 < gm m k l
          · rw [if_neg d1, if_pos d2]
            exact .inr (.inr ⟨_, rfl, _, rfl, rfl, by decide, fun h => absurd (h.b k l hk' (by omega)) (by omega)⟩)
          rw [if_neg d1, if_neg d2]
          refine .inl ⟨_, rfl, fun j hj => ?_⟩
          by_cases w : j = l
          · subst w; omega
          · exact i3 j (by omega)) (fun _ h => by rw [Nat.zero_add, hl] at h; exact h)
      rw [e2, bind_some']
      match q2, hq2 with
      | .ret r, ⟨x, hx, h1, h2, h3⟩ => subst hx; exact .inr (.inr ⟨_, rfl, h1, h2, h3⟩)
      | .go _, h1 =>
        dsimp only
        rw [clone_ints (by omega), bind_some', ck_some (by omega)]
        refine .inl ⟨_, rfl, by rw [List.length_set, i1], fun i hi => ?_⟩
        rw [getD_set']
        by_cases w : i = k
        · subst w; exact ⟨hl, if_pos ⟨rfl, by omega⟩, h1⟩
        · rw [if_neg fun q => w q.1]; exact i2 i (by omega)) (fun g ⟨h1, h2⟩ => by
      rw [Nat.zero_add] at h2
      exact ⟨eq_of_getD (d := []) h1 fun i hi => (h2 i (by omega)).2.1, by omega, ⟨rfl, fun i hi => (h2 i hi).1⟩, fun i j hi hj => (h2 i hi).2.2 j hj⟩)
  match q, e, hq with
  | .ret r, e, ⟨h1, h2, h3⟩ =>
    refine ⟨fun h => absurd h h3, fun _ => ⟨r.2, h2, ?_⟩⟩
    unfold tree_Det_F
    rw [if_neg c7, ck_some (by omega), e, bind_some']
    exact congrArg some (Prod.ext h1 rfl)
  | .go g, e, ⟨h1, h2⟩ =>
    refine ⟨fun _ => ?_, fun h => absurd h2 h⟩
    unfold tree_Det_F
    rw [if_neg c7, ck_some (by omega), e, bind_some']
    dsimp only
    rw [h1, det_ok h2, bind_some']
end Go.Proofs.Ytdpkdicciclobaa
