/- Where there are heights at all, Heights finds some: the rounds from all nodes at once come to rest. -/
import Derived.Test.YtlelfifbmckhgaaPthree
namespace Go.Proofs.Ytlelfifbmckhgaa
open Go Go.Proofs.Ytlelfifbmckhgaa.Sx
set_option linter.unusedVariables false
set_option linter.unusedSimpArgs false
theorem cnt_full {S : Nat → Bool} {n : Nat} (h : n ≤ cnt S n) {x : Nat} (hx : x < n) : S x = true := by
  cases e : S x with
  | true => rfl
  | false =>
    have := cnt_lt (S := S) (T := fun _ => true) (n := n) (y := x) (fun _ _ _ => rfl) hx rfl e
    have := cnt_le (fun _ => true) n
    omega
structure AttM (n : Int) (L : List Arc) (F : List Int) (K : List Bool) : Prop where
  l0 : F.length = n.toNat
  l1 : K.length = n.toNat
  way : ∀ x, 0 ≤ x → x < n → ∃ s0, (0 ≤ s0 ∧ s0 < n) ∧ Cost L s0 x (F.getD x.toNat 0)
  k : ∀ x, 0 ≤ x → x < n → K.getD x.toNat false = true
  z : ∀ x, 0 ≤ x → x < n → F.getD x.toNat 0 ≤ 0
theorem stp_attM {n : Int} {L : List Arc} {s : RS} {a : Arc} (ha : a ∈ L) (hG : Good n (-10000) a) (H : AttM n L s.1 s.2.1) : AttM n L (stp s a).1 (stp s a).2.1 := by
  obtain ⟨F, K, q⟩ := s
  obtain ⟨l0, l1, way, k, z⟩ := H
  have := hG.f0; have := hG.f1; have := hG.t0; have := hG.t1
  dsimp only at *
  have kf := k a.f hG.f0 hG.f1
  have kt := k a.t hG.t0 hG.t1
  unfold stp
  dsimp only
  rw [if_pos kf]
  by_cases h2 : K.getD a.t.toNat false = true ∧ F.getD a.t.toNat 0 ≤ F.getD a.f.toNat 0 + a.c
  · rw [if_pos h2]; exact ⟨l0, l1, way, k, z⟩
  · rw [if_neg h2]
    have hlt : F.getD a.f.toNat 0 + a.c < F.getD a.t.toNat 0 := Int.lt_of_not_ge fun c => h2 ⟨kt, c⟩
    have zt := z a.t hG.t0 hG.t1
    refine ⟨by simp [l0], by simp [l1], fun x h0 h1 => ?_, fun x h0 h1 => ?_, fun x h0 h1 => ?_⟩
    · dsimp only
      rw [getD_set']
      by_cases e : x.toNat = a.t.toNat
      · rw [if_pos ⟨e, by omega⟩]
        obtain ⟨s0, hs, hc⟩ := way a.f hG.f0 hG.f1
        have : x = a.t := by omega
        subst this
        exact ⟨s0, hs, .snoc hc ha⟩
      · rw [if_neg (fun q => e q.1)]; exact way x h0 h1
    · dsimp only
      rw [getD_set']
      split
      · rfl
      · exact k x h0 h1
    · dsimp only
      rw [getD_set']
      split
      · omega
      · exact z x h0 h1
theorem fold_stepM {n : Int} {L : List Arc} (hL : ∀ a, a ∈ L → Good n (-10000) a) {s : RS} (H : AttM n L s.1 s.2.1) {a : Arc} (ha : a ∈ L) :
    (L.foldl stp s).1.getD a.t.toNat 0 ≤ s.1.getD a.f.toNat 0 + a.c := by
  obtain ⟨M1, M2, hM⟩ := List.append_of_mem ha
  have hG := hL a ha
  have H1 := fold_inv (L := L) (fun u => AttM n L u.1 u.2.1) (fun u b hb h => stp_attM hb (hL b hb) h) M1 (fun b hb => by rw [hM]; simp [hb]) s H
  have m1 := fold_mo M1 s _ (H.k a.f hG.f0 hG.f1)
  have e : L.foldl stp s = M2.foldl stp (stp (M1.foldl stp s) a) := by conv => { lhs; rw [hM] }; rw [List.foldl_append, List.foldl_cons]
  have := hG.t0; have := hG.t1
  rw [e]
  have h2 : (stp (M1.foldl stp s) a).2.1.getD a.t.toNat false = true ∧ (stp (M1.foldl stp s) a).1.getD a.t.toNat 0 ≤ (M1.foldl stp s).1.getD a.f.toNat 0 + a.c := by
    have l0 := H1.l0; have l1 := H1.l1
    generalize M1.foldl stp s = u at m1 H1 l0 l1 ⊢
    unfold stp
    rw [if_pos m1.1]
    split
    · assumption
    · dsimp only
      rw [getD_set', getD_set', if_pos ⟨rfl, by omega⟩, if_pos ⟨rfl, by omega⟩]
      exact ⟨rfl, Int.le_refl _⟩
  have h3 := fold_mo M2 _ _ h2.1
  have := h3.2; have := h2.2; have := m1.2; omega
def FixM (n : Int) (L : List Arc) (s : St) (x : Int) : Prop := ∀ s0 w, (0 ≤ s0 ∧ s0 < n) → Cost L s0 x w → s.1.getD x.toNat 0 ≤ w
section
variable {n : Int} {L : List Arc} {h : List Int} (hL : ∀ a, a ∈ L → Good n (-10000) a) (hh : ∀ a, a ∈ L → h.getD a.t.toNat 0 ≤ h.getD a.f.toNat 0 + a.c)
theorem fixM_mono {s : St} (H : AttM n L s.1 s.2) {x : Int} (h0 : 0 ≤ x) (h1 : x < n) (hf : FixM n L s x) : FixM n L (rnd L s) x := by
  have m := fold_mo L (s.1, s.2, true) x.toNat (H.k x h0 h1)
  exact fun s0 w hs hw => Int.le_trans m.2 (hf s0 w hs hw)
include hL
theorem cost_range {s0 x w : Int} (hs : 0 ≤ s0 ∧ s0 < n) (hc : Cost L s0 x w) : 0 ≤ x ∧ x < n := by
  cases hc with
  | nil => exact hs
  | snoc _ ha => exact ⟨(hL _ ha).t0, (hL _ ha).t1⟩
include hh
theorem fixM_grow {s : St} (H : AttM n L s.1 s.2) (hx : ∃ p : Int × Int × Int, (0 ≤ p.1 ∧ p.1 < n) ∧ Cost L p.1 p.2.1 p.2.2 ∧ ¬ FixM n L s p.2.1) : ∃ u, 0 ≤ u ∧ u < n ∧ ¬ FixM n L s u ∧ FixM n L (rnd L s) u := by
  obtain ⟨B, B0, hB⟩ : ∃ B : Int, 0 ≤ B ∧ ∀ i, h.getD i 0 ≤ B := by
    clear hh
    induction h with
    | nil => exact ⟨0, Int.le_refl _, fun i => by simp⟩
    | cons a h ih =>
      obtain ⟨B, h0, hB⟩ := ih
      refine ⟨B + (if 0 < a then a else 0), by split <;> omega, fun i => ?_⟩
      cases i with
      | zero => rw [List.getD_cons_zero]; split <;> omega
      | succ i =>
        have := hB i
        rw [List.getD_cons_succ]; split <;> omega
  obtain ⟨⟨s0, y, w⟩, ⟨hs, hw, hn⟩, least⟩ := least_of (fun p : Int × Int × Int => (0 ≤ p.1 ∧ p.1 < n) ∧ Cost L p.1 p.2.1 p.2.2 ∧ ¬ FixM n L s p.2.1) (fun p => p.2.2 + B - h.getD p.2.1.toNat 0) (fun p hp => by
    have := cost_ge hh hp.2.1
    have := hB p.1.toNat
    omega) hx
  dsimp only at hs hw hn least
  have walk : ∀ {x v : Int}, Cost L s0 x v → v + B - h.getD x.toNat 0 ≤ w + B - h.getD y.toNat 0 → ¬ FixM n L s x → ∃ u, 0 ≤ u ∧ u < n ∧ ¬ FixM n L s u ∧ FixM n L (rnd L s) u := by
    intro x v hc
    induction hc with
    | nil =>
      intro hle hn
      exfalso
      refine hn fun s1 w1 hs1 hw1 => ?_
      have := least (s1, s0, w1) ⟨hs1, hw1, hn⟩
      have := H.z s0 hs.1 hs.2
      dsimp only at *
      omega
    | @snoc v a hc ha ih =>
      intro hle hn
      have := hh a ha
      by_cases hf : FixM n L s a.f
      · have hG := hL a ha
        refine ⟨a.t, hG.t0, hG.t1, hn, fun s1 w1 hs1 hw1 => ?_⟩
        have st := fold_stepM hL (s := (s.1, s.2, true)) H ha
        have := least (s1, a.t, w1) ⟨hs1, hw1, hn⟩
        have := hf s0 _ hs hc
        dsimp only [rnd] at *
        omega
      · exact ih (by omega) hf
  exact walk hw (Int.le_refl _) hn
open Classical in
theorem fixM_all {s : St} (H : AttM n L s.1 s.2) : ∀ r : Nat, (∀ s0 y w, (0 ≤ s0 ∧ s0 < n) → Cost L s0 y w → FixM n L (itr L r s) y) ∨ r ≤ cnt (fun x => decide (FixM n L (itr L r s) (x : Int))) n.toNat
  | 0 => .inr (Nat.zero_le _)
  | r + 1 => by
    have A : AttM n L (itr L r s).1 (itr L r s).2 := itr_inv (fun F K => AttM n L F K) (fun u b hb h => stp_attM hb (hL b hb) h) H
    rcases fixM_all H r with q | q
    · exact .inl fun s0 y w hs hw => by
        have hr := cost_range hL hs hw
        rw [itr_succ]; exact fixM_mono A hr.1 hr.2 (q s0 y w hs hw)
    · by_cases hx : ∃ p : Int × Int × Int, (0 ≤ p.1 ∧ p.1 < n) ∧ Cost L p.1 p.2.1 p.2.2 ∧ ¬ FixM n L (itr L r s) p.2.1
      · obtain ⟨u, u0, u1, u2, u3⟩ := fixM_grow hL hh A hx
        right
        have := cnt_lt (S := fun x => decide (FixM n L (itr L r s) (x : Int))) (T := fun x => decide (FixM n L (itr L (r + 1) s) (x : Int))) (n := n.toNat) (y := u.toNat) (fun x hx hf => by
          simp only [decide_eq_true_eq] at hf ⊢
          rw [itr_succ]; exact fixM_mono A (by omega) (by omega) hf) (by omega) (by
          rw [show ((u.toNat : Nat) : Int) = u by omega, itr_succ]; exact decide_eq_true u3) (by
          rw [show ((u.toNat : Nat) : Int) = u by omega]; exact decide_eq_false u2)
        omega
      · exact .inl fun s0 y w hs hw => by
          have hr := cost_range hL hs hw
          rw [itr_succ]; exact fixM_mono A hr.1 hr.2 (Classical.byContradiction fun z => hx ⟨(s0, y, w), hs, hw, z⟩)
end
theorem heights_pot {g : Graph} (hg : Ok g) {h : List Int} (hh : ∀ a, a ∈ g.as → h.getD a.t.toNat 0 ≤ h.getD a.f.toNat 0 + a.c) : ∃ h', short_Heights_F g = some (h', 0) := by
  have n0 := hg.n0
  have H : AttM g.n g.as (List.replicate g.n.toNat 0) (List.replicate g.n.toNat true) := ⟨by simp, by simp, fun x h0 h1 => ⟨x, ⟨h0, h1⟩, by rw [zeros_getD]; exact .nil⟩, fun x h0 h1 => by rw [getD_replicate', if_pos (by omega)], fun x h0 h1 => by rw [zeros_getD]; omega⟩
  have all : ∀ s0 y w, (0 ≤ s0 ∧ s0 < g.n) → Cost g.as s0 y w → FixM g.n g.as (itr g.as g.n.toNat (List.replicate g.n.toNat 0, List.replicate g.n.toNat true)) y := by
    rcases fixM_all hg.arc hh (s := (List.replicate g.n.toNat 0, List.replicate g.n.toNat true)) H g.n.toNat with q | q
    · exact q
    · intro s0 y w hs hw
      have hr := cost_range hg.arc hs hw
      have := cnt_full q (x := y.toNat) (by omega)
      rw [show ((y.toNat : Nat) : Int) = y by omega] at this
      simpa using this
  have A : AttM g.n g.as (itr g.as g.n.toNat (List.replicate g.n.toNat 0, List.replicate g.n.toNat true)).1 (itr g.as g.n.toNat (List.replicate g.n.toNat 0, List.replicate g.n.toNat true)).2 := itr_inv (fun F K => AttM g.n g.as F K) (fun u b hb h => stp_attM hb (hg.arc b hb) h) H
  have hq : (relP g.as (g.n + 1).toNat (List.replicate g.n.toNat 0, List.replicate g.n.toNat true)).1 = true := by
    refine relP_quiet (j := g.n.toNat) (by omega) ?_
    rw [fold_rest]
    intro a ha hk
    have hG := hg.arc a ha
    obtain ⟨s0, hs, hw⟩ := A.way a.f hG.f0 hG.f1
    exact ⟨A.k a.t hG.t0 hG.t1, all _ _ _ hs (.snoc hw ha) _ _ hs (.snoc hw ha)⟩
  exact ⟨_, by rw [heights_eq hg, if_pos hq]⟩
end Go.Proofs.Ytlelfifbmckhgaa
