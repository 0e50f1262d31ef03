/- ColourLess: the law's function answers true. -/
import Derived.Test.YtblhoelmodbifaaPcolour
import Derived.Test.YtblhoelmodbifaaKColourLess
namespace Go.Proofs.Ytblhoelmodbifaa
open Go Go.Proofs.Ytblhoelmodbifaa.Sx
set_option linter.unusedVariables false
set_option linter.unusedSimpArgs false
theorem threeC_eq : weirkeep_three_F = some ⟨3, [⟨0, 1, 3⟩, ⟨1, 2, 2⟩, ⟨2, 0, 1⟩]⟩ := by kernel_rfl
theorem countC_eq : colour_Count_F ⟨3, [⟨0, 1, 3⟩, ⟨1, 2, 2⟩, ⟨2, 0, 1⟩]⟩ 3 = some (6, 0) := by kernel_rfl
theorem at2_eq (p : Int) (a : Arc) (g : Graph) (hn : InI (g.n - 1)) : weirkeep_ColourLess_c1_F p a g = some (mergeI (min a.f a.t) (max a.f a.t) g.n p) := by
  unfold weirkeep_ColourLess_c1_F mergeI
  rw [ck_some hn]
  split
  · rfl
  · split <;> rfl
theorem merge_loop2 {n : Int} {a : Arc} {r : List Arc} (hn : InI (n - 1)) (hr : r.length ≤ 1000) :
    forN (weirkeep_ColourLess_B1 ⟨n, a :: r⟩) r.length 0 [] = some (r.map (mergeA (min a.f a.t) (max a.f a.t) n)) := by
  obtain ⟨s, e, h⟩ := forN_inv (f := weirkeep_ColourLess_B1 ⟨n, a :: r⟩) (fun j s => s = (r.take j).map (mergeA (min a.f a.t) (max a.f a.t) n)) (n := r.length) (k := 0) (s := []) rfl fun j s _ hj hs => by
    have hj' : j < r.length := by omega
    unfold weirkeep_ColourLess_B1
    dsimp only
    rw [subl_tail']
    have e0 : (a :: r).getD 0 El.d = a := rfl
    rw [e0, at2_eq _ _ _ hn, bind_some', at2_eq _ _ _ hn, bind_some', ck_some (by rw [hs]; simp; omega)]
    refine ⟨_, rfl, ?_⟩
    rw [take_succ_getD hj', List.map_append, hs]
    rfl
  rw [e, h, Nat.zero_add, List.take_of_length_le (Nat.le_refl _)]
theorem ColourLess_true (g : Graph) (many : Int) : weirkeep_ColourLess_F g many = some true := by
  unfold weirkeep_ColourLess_F
  rw [threeC_eq, bind_some', countC_eq, bind_some']
  dsimp only
  rw [if_neg (by decide), if_neg (by decide)]
  by_cases h : OkC g many
  · rw [count_ok h, bind_some']
    dsimp only
    rw [if_neg (by decide)]
    obtain ⟨n, es⟩ := g
    have n0 := h.ok.n0; have hn := h.n; have hl := h.l; have m0 := h.m0; have m1 := h.m1
    dsimp only at n0 hn hl ⊢
    cases es with
    | nil => rw [if_pos (by simp), if_pos rfl]
    | cons a r =>
      have ha := h.ok.arc a (by simp)
      have f0 := ha.f0; have f1 := ha.f1; have t0 := ha.t0; have t1 := ha.t1
      simp only [List.length_cons] at hl
      dsimp only at f1 t1
      have e0 : (a :: r).getD 0 El.d = a := rfl
      have hrest : OkC ⟨n, r⟩ many := ⟨⟨h.ok.n0, h.ok.n1, by dsimp only; omega, fun b hb => h.ok.arc b (by simp [hb])⟩, hn, by dsimp only; omega, m0, m1⟩
      rw [if_neg (by simp only [List.length_cons]; omega), ck_some (by simp), subl_tail', count_ok hrest, bind_some']
      dsimp only
      rw [ck_some (by simp), e0]
      by_cases he : a.f = a.t
      · rw [if_pos he, if_pos rfl, colN_loop _ _ he]; rfl
      · have hin : InN n (a :: r) := ⟨fun b hb => by
          have hG := h.ok.arc b hb
          exact ⟨hG.f0, hG.f1, hG.t0, hG.t1⟩⟩
        have hmi := InN.merge (lo := min a.f a.t) (hi := max a.f a.t) hin.tail (by omega) (by omega) (by omega)
        have hone : OkC ⟨n - 1, r.map (mergeA (min a.f a.t) (max a.f a.t) n)⟩ many := ⟨⟨by dsimp only; omega, by dsimp only; omega, by simp; omega, fun b hb => by
          obtain ⟨q1, q2, q3, q4⟩ := hmi.arc b hb
          obtain ⟨b', _, rfl⟩ := List.mem_map.1 hb
          exact ⟨q1, q2, q3, q4, by simp [mergeA], by simp [mergeA]⟩⟩, by dsimp only; omega, by simp; omega, m0, m1⟩
        rw [if_neg he, ck_some (by unfold InI; omega), merge_loop2 (by unfold InI; omega) (by omega), bind_some', count_ok hone, bind_some']
        dsimp only
        obtain ⟨m, hm⟩ : ∃ m : Nat, n = (m : Int) + 1 := ⟨(n - 1).toNat, by omega⟩
        subst hm
        have key := colN_cons (K := many.toNat) (n := m) (r := r) he f0 (by omega) t0 (by omega)
        have c1 := colN_nonneg many.toNat (m + 1) r
        have c2 := colN_le many.toNat (m + 1) r
        have c3 := (pow_bound (K := ((many.toNat : Nat) : Int)) (by omega) (by omega) (j := m + 1) (by omega)).2
        have d1 := colN_nonneg many.toNat m (r.map (mergeA (min a.f a.t) (max a.f a.t) ((m : Int) + 1)))
        have d2 := colN_le many.toNat m (r.map (mergeA (min a.f a.t) (max a.f a.t) ((m : Int) + 1)))
        have d3 := (pow_bound (K := ((many.toNat : Nat) : Int)) (by omega) (by omega) (j := m) (by omega)).2
        rw [show ((m : Int) + 1).toNat = m + 1 by omega, show ((m : Int) + 1 - 1).toNat = m by omega, if_pos rfl, if_pos rfl, ck_some (by unfold InI; omega)]
        exact congrArg some (decide_eq_true key)
  · obtain ⟨e, he, h1⟩ := count_bad h
    rw [h1, bind_some']
    dsimp only
    rw [if_pos he, if_neg he]; rfl
end Go.Proofs.Ytblhoelmodbifaa
