/- Package colour: Count answers how many colourings there are. -/
import Derived.Test.YtblhoelmodbifaaPcolS
import Derived.Test.YtblhoelmodbifaaGcolour
namespace Go.Proofs.Ytblhoelmodbifaa
open Go Go.Proofs.Ytblhoelmodbifaa.Sx
set_option linter.unusedVariables false
set_option linter.unusedSimpArgs false
theorem subl_tail' {α : Type} [El α] (a : α) (l : List α) : subl (a :: l) 1 ((a :: l).length - 1) = l := by
  refine eq_of_getD (d := El.d) (by simp [subl_length]) fun i hi => ?_
  rw [subl_getD (by simpa [subl_length] using hi)]
  simp [List.getD_eq_getElem?_getD, Nat.add_comm]
theorem pow_bound {K : Int} (h0 : 0 ≤ K) (h1 : K ≤ 20) : ∀ {j : Nat}, j ≤ 8 → 0 ≤ K ^ j ∧ K ^ j ≤ 25600000000 := by
  have step : ∀ (j : Nat) (b : Int), (0 ≤ K ^ j ∧ K ^ j ≤ b) → (0 ≤ K ^ (j + 1) ∧ K ^ (j + 1) ≤ b * 20) := fun j b ⟨a1, a2⟩ => by
    rw [Int.pow_succ]
    exact ⟨Int.mul_nonneg a1 h0, Int.mul_le_mul a2 h1 h0 (by omega)⟩
  have s0 : 0 ≤ K ^ 0 ∧ K ^ 0 ≤ 1 := by rw [Int.pow_zero]; omega
  have s1 := step _ _ s0; have s2 := step _ _ s1; have s3 := step _ _ s2; have s4 := step _ _ s3
  have s5 := step _ _ s4; have s6 := step _ _ s5; have s7 := step _ _ s6; have s8 := step _ _ s7
  intro j hj
  rcases (by omega : j = 0 ∨ j = 1 ∨ j = 2 ∨ j = 3 ∨ j = 4 ∨ j = 5 ∨ j = 6 ∨ j = 7 ∨ j = 8) with rfl | rfl | rfl | rfl | rfl | rfl | rfl | rfl | rfl
  · exact ⟨s0.1, Int.le_trans s0.2 (by decide)⟩
  · exact ⟨s1.1, Int.le_trans s1.2 (by decide)⟩
  · exact ⟨s2.1, Int.le_trans s2.2 (by decide)⟩
  · exact ⟨s3.1, Int.le_trans s3.2 (by decide)⟩
  · exact ⟨s4.1, Int.le_trans s4.2 (by decide)⟩
  · exact ⟨s5.1, Int.le_trans s5.2 (by decide)⟩
  · exact ⟨s6.1, Int.le_trans s6.2 (by decide)⟩
  · exact ⟨s7.1, Int.le_trans s7.2 (by decide)⟩
  · exact ⟨s8.1, Int.le_trans s8.2 (by decide)⟩
structure InN (n : Int) (l : List Arc) : Prop where
  arc : ∀ a, a ∈ l → 0 ≤ a.f ∧ a.f < n ∧ 0 ≤ a.t ∧ a.t < n
theorem InN.tail {n : Int} {a : Arc} {l : List Arc} (h : InN n (a :: l)) : InN n l := ⟨fun b hb => h.arc b (by simp [hb])⟩
theorem mergeI_in {lo hi n k : Int} (h0 : 0 ≤ lo) (h1 : lo < hi) (h2 : hi < n) (k0 : 0 ≤ k) (k1 : k < n) : 0 ≤ mergeI lo hi n k ∧ mergeI lo hi n k < n - 1 := by
  unfold mergeI
  by_cases q1 : k = hi
  · rw [if_pos q1]; omega
  · rw [if_neg q1]
    by_cases q2 : k = n - 1
    · rw [if_pos q2]; omega
    · rw [if_neg q2]; omega
theorem InN.merge {lo hi n : Int} {l : List Arc} (h : InN n l) (h0 : 0 ≤ lo) (h1 : lo < hi) (h2 : hi < n) : InN (n - 1) (l.map (mergeA lo hi n)) := ⟨fun b hb => by
  obtain ⟨a, ha, rfl⟩ := List.mem_map.1 hb
  obtain ⟨q1, q2, q3, q4⟩ := h.arc a ha
  have m1 := mergeI_in h0 h1 h2 q1 q2
  have m2 := mergeI_in h0 h1 h2 q3 q4
  simp only [mergeA]
  omega⟩
theorem at_eq (p hi lo n : Int) (hn : InI (n - 1)) : colour_count_c1_F p hi lo n = some (mergeI lo hi n p) := by
  unfold colour_count_c1_F mergeI
  rw [ck_some hn]
  split
  · rfl
  · split <;> rfl
theorem merge_loop {n : Int} {a : Arc} {r : List Arc} (hn : InI (n - 1)) (hr : r.length ≤ 1000) :
    forN (colour_count_B2 n (a :: r)) r.length 0 [] = some (r.map (mergeA (min a.f a.t) (max a.f a.t) n)) := by
  obtain ⟨s, e, h⟩ := forN_inv (f := colour_count_B2 n (a :: r)) (fun j s => s = (r.take j).map (mergeA (min a.f a.t) (max a.f a.t) n)) (n := r.length) (k := 0) (s := []) rfl fun j s _ hj hs => by
    have hj' : j < r.length := by omega
    unfold colour_count_B2
    rw [subl_tail']
    have e0 : (a :: r).getD 0 El.d = a := rfl
    rw [e0, at_eq _ _ _ _ hn, bind_some', at_eq _ _ _ _ hn, bind_some', ck_some (by rw [hs]; simp; omega)]
    refine ⟨_, rfl, ?_⟩
    have ht : r.take (j + 1) = r.take j ++ [r.getD j El.d] := take_succ_getD hj'
    rw [ht, List.map_append, hs]
    rfl
  rw [e, h, Nat.zero_add, List.take_of_length_le (Nat.le_refl _)]
theorem count_eq {K : Nat} (hK : K ≤ 20) : ∀ (fuel : Nat) {n : Nat} {l : List Arc}, l.length < fuel → n ≤ 8 → l.length ≤ 12 → InN n l → colour_count_F fuel n l K = some (colN K n l)
  | 0, _, _, h, _, _, _ => absurd h (by omega)
  | fuel + 1, n, [], _, hn, _, _ => by
    show colour_count_S _ _ _ _ = _
    unfold colour_count_S
    rw [if_pos (by simp), ck_some (inI_small (by omega) (by omega)), Int.toNat_natCast]
    obtain ⟨x, e, h⟩ := forN_inv (f := colour_count_B1 (K : Int)) (fun j x => x = (K : Int) ^ j) (n := n) (k := 0) (s := 1) rfl fun j x _ hj hx => by
      have := pow_bound (K := (K : Int)) (by omega) (by omega) (j := j + 1) (by omega)
      unfold colour_count_B1
      have e : x * (K : Int) = (K : Int) ^ (j + 1) := by rw [hx, Int.pow_succ]
      rw [e, ck_some (by unfold InI; omega)]
      exact ⟨_, rfl, rfl⟩
    rw [e, bind_some', h, Nat.zero_add, colN_nil]
  | fuel + 1, n, a :: r, hf, hn, hl, hin => by
    obtain ⟨f0, f1, t0, t1⟩ := hin.arc a (by simp)
    simp only [List.length_cons] at hf hl
    show colour_count_S _ _ _ _ = _
    unfold colour_count_S
    have e0 : (a :: r).getD 0 El.d = a := rfl
    rw [if_neg (by simp only [List.length_cons]; omega), ck_some (by simp), ck_some (by simp), e0, subl_tail']
    by_cases he : a.f = a.t
    · rw [if_pos he, colN_loop _ _ he]
    · obtain ⟨m, rfl⟩ : ∃ m, n = m + 1 := ⟨n - 1, by omega⟩
      have c1 := colN_nonneg K (m + 1) r
      have c2 := colN_le K (m + 1) r
      have c3 := (pow_bound (K := (K : Int)) (by omega) (by omega) hn).2
      have d1 := colN_nonneg K m (r.map (mergeA (min a.f a.t) (max a.f a.t) ((m : Int) + 1)))
      have d2 := colN_le K m (r.map (mergeA (min a.f a.t) (max a.f a.t) ((m : Int) + 1)))
      have d3 := (pow_bound (K := (K : Int)) (by omega) (by omega) (j := m) (by omega)).2
      have hcast : ((m + 1 : Nat) : Int) = (m : Int) + 1 := by omega
      rw [if_neg he, merge_loop (by unfold InI; omega) (by omega), bind_some', ck_some (by unfold InI; omega)]
      rw [count_eq hK fuel (by omega) hn (by omega) hin.tail, bind_some', hcast, show (m : Int) + 1 - 1 = (m : Int) by omega]
      have hmi := InN.merge (lo := min a.f a.t) (hi := max a.f a.t) hin.tail (by omega) (by omega) (by omega)
      rw [hcast, show (m : Int) + 1 - 1 = (m : Int) by omega] at hmi
      rw [count_eq hK fuel (by simp; omega) (by omega) (by simp; omega) hmi, bind_some', ck_some (by unfold InI; omega)]
      rw [colN_cons he f0 (by omega) t0 (by omega)]
/-- what Count asks -/
structure OkC (g : Graph) (many : Int) : Prop where
  ok : Ok g
  n : g.n ≤ 8
  l : g.as.length ≤ 12
  m0 : 0 ≤ many
  m1 : many ≤ 20
theorem count_ok {g : Graph} {many : Int} (h : OkC g many) : colour_Count_F g many = some (colN many.toNat g.n.toNat g.as, 0) := by
  have n0 := h.ok.n0; have hn := h.n; have hl := h.l; have m0 := h.m0; have m1 := h.m1
  unfold colour_Count_F
  rw [checkLong_ok h.ok, bind_some', if_neg (by decide), if_neg (by omega), if_neg (by omega), if_neg (by omega), if_neg (by omega)]
  have := count_eq (K := many.toNat) (by omega) 100 (n := g.n.toNat) (l := g.as) (by omega) (by omega) (by omega) ⟨fun a ha => by
    have hG := h.ok.arc a ha
    have := hG.f0; have := hG.f1; have := hG.t0; have := hG.t1
    omega⟩
  rw [show ((g.n.toNat : Nat) : Int) = g.n by omega, show ((many.toNat : Nat) : Int) = many by omega] at this
  rw [this, bind_some']
theorem count_bad {g : Graph} {many : Int} (h : ¬ OkC g many) : ∃ e, e ≠ 0 ∧ colour_Count_F g many = some (0, e) := by
  unfold colour_Count_F
  rw [checkLong_eq, bind_some']
  by_cases hc : checkF g (-10000) = 0
  · rw [if_neg (by simpa using hc)]
    by_cases h1 : 8 < g.n
    · rw [if_pos h1]; exact ⟨2, by decide, rfl⟩
    rw [if_neg h1]
    by_cases h2 : 12 < ((g.as.length : Nat) : Int)
    · rw [if_pos h2]; exact ⟨2, by decide, rfl⟩
    rw [if_neg h2]
    by_cases h3 : many < 0
    · rw [if_pos h3]; exact ⟨1, by decide, rfl⟩
    rw [if_neg h3]
    by_cases h4 : 20 < many
    · rw [if_pos h4]; exact ⟨1, by decide, rfl⟩
    · exact absurd ⟨(checkF_ok g _).1 hc, by omega, by omega, by omega, by omega⟩ h
  · rw [if_pos hc]; exact ⟨_, hc, rfl⟩
end Go.Proofs.Ytblhoelmodbifaa
