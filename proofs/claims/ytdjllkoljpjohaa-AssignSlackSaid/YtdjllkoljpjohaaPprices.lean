/- Package assign: Prices tells prices that fit. -/
import Derived.Test.YtdjllkoljpjohaaPassign
namespace Go.Proofs.Ytdjllkoljpjohaa
open Go Go.Proofs.Ytdjllkoljpjohaa.Sx
set_option linter.unusedVariables false
set_option linter.unusedSimpArgs false
theorem PrW.congr {n : Nat} {U : Nat → Nat → Int} {P0 P P' : Nat → Int} (h : PrW n U P0 P) (e : ∀ k, k < n → P' k = P k) : PrW n U P0 P' :=
  ⟨fun k hk => by rw [e k hk]; exact h.up k hk, fun k hk => by rw [e k hk]; exact h.mono k hk⟩
theorem PrI.congr {n : Nat} {U : Nat → Nat → Int} {r : Nat} {P P' : Nat → Int} (h : PrI n U r P) (e : ∀ k, k < n → P' k = P k) : PrI n U r P' :=
  ⟨fun k hk => by rw [e k hk]; exact h.h0 k hk, fun k hk => by rw [e k hk]; exact h.up k hk, fun a L k v hp hl => by rw [e k hp.mem.2]; exact h.low a L k v hp hl⟩
theorem tot_perm {n : Nat} {σ : Nat → Nat} (hlt : ∀ i, i < n → σ i < n) (hinj : ∀ i j, i < n → j < n → σ i = σ j → i = j) (honto : ∀ k, k < n → ∃ i, i < n ∧ σ i = k) (f : Nat → Int) : tot (fun i => f (σ i)) n = tot f n := by
  have e1 : tot (fun i => f (σ i)) n = tot (fun i => tot (fun k => if σ i = k then f k else 0) n) n := tot_congr fun i hi => by
    rw [tot_single (hlt i hi) fun k _ hne => if_neg fun z => hne z.symm, if_pos rfl]
  rw [e1, tot_swap]
  exact tot_congr fun k hk => by
    obtain ⟨i, hi, e⟩ := honto k hk
    rw [tot_single hi fun j hj hne => if_neg fun z => hne (hinj j i hj hi (by rw [z, e])), if_pos e]
section
variable {gain : List (List Int)} (hg : GainOk gain) {p : List Nat} {s : Int} (hp : BestP gain p s)
include hg hp
theorem prices_round {r : Nat} {pr : List Int} (hl : pr.length = gain.length) (h0 : PrI gain.length (fun i j => Wg gain i (p.getD j 0)) r fun j => pr.getD (p.getD j 0) 0) (j : Nat) :
    ∃ pr', assign_Prices_B1 gain (p.map fun (k : Nat) => (k : Int)) j pr = some pr' ∧ pr'.length = gain.length ∧ PrI gain.length (fun i j => Wg gain i (p.getD j 0)) (r + 1) fun j => pr'.getD (p.getD j 0) 0 := by
  have n6 := hg.n6
  have hw : ∀ i j : Nat, (fun i j => Wg gain i (p.getD j 0)) i j - (fun i j => Wg gain i (p.getD j 0)) i i ≤ 2000 := fun i j => by
    have a := hg.bnd i (p.getD j 0); have b := hg.bnd i (p.getD i 0)
    dsimp only [Wg]
    omega
  have bound : ∀ {P : Nat → Int}, PrW gain.length (fun i j => Wg gain i (p.getD j 0)) (fun j => pr.getD (p.getD j 0) 0) P → ∀ k, k < gain.length → 0 ≤ P k ∧ P k ≤ 12000 := fun h k hk => by
    obtain ⟨a, L, v, h1, h2⟩ := h.up k hk
    have h3 := h1.small hw (by decide)
    have h4 := h1.le_n
    have h5 := h.mono k hk
    have h6 := h0.h0 k hk
    have h7 : (L.length : Int) * 2000 ≤ 6 * 2000 := Int.mul_le_mul_of_nonneg_right (by omega) (by decide)
    try dsimp only at h5 h6
    omega
  unfold assign_Prices_B1
  obtain ⟨pr', e, h1, h2, h3⟩ := forN_inv (f := assign_Prices_B2 gain (p.map fun (k : Nat) => (k : Int))) (fun i (q : List Int) => q.length = gain.length ∧ PrW gain.length (fun i j => Wg gain i (p.getD j 0)) (fun j => pr.getD (p.getD j 0) 0) (fun j => q.getD (p.getD j 0) 0) ∧ ∀ k l, k < i → l < gain.length → pr.getD (p.getD k 0) 0 + (Wg gain k (p.getD l 0) - Wg gain k (p.getD k 0)) ≤ q.getD (p.getD l 0) 0) (n := gain.length) (k := 0) (s := pr) ⟨hl, ⟨h0.up, fun k _ => Int.le_refl _⟩, fun k l hk => absurd hk (by omega)⟩ fun i q _ hi ⟨i1, i2, i3⟩ => by
    have hi' : i < gain.length := by omega
    have pi := hp.lt i hi'
    unfold assign_Prices_B2
    rw [hg.row i hi']
    obtain ⟨q', e, j1, j2, j3, j4⟩ := forN_inv (f := assign_Prices_B3 gain (p.map fun (k : Nat) => (k : Int)) i) (fun c (q : List Int) => q.length = gain.length ∧ PrW gain.length (fun i j => Wg gain i (p.getD j 0)) (fun j => pr.getD (p.getD j 0) 0) (fun j => q.getD (p.getD j 0) 0) ∧ (∀ k l, k < i → l < gain.length → pr.getD (p.getD k 0) 0 + (Wg gain k (p.getD l 0) - Wg gain k (p.getD k 0)) ≤ q.getD (p.getD l 0) 0) ∧ ∀ l, l < gain.length → p.getD l 0 < c → pr.getD (p.getD i 0) 0 + (Wg gain i (p.getD l 0) - Wg gain i (p.getD i 0)) ≤ q.getD (p.getD l 0) 0) (n := gain.length) (k := 0) (s := q) ⟨i1, i2, i3, fun l _ hc => absurd hc (by omega)⟩ fun c q _ hc ⟨j1, j2, j3, j4⟩ => by
      have hc' : c < gain.length := by omega
      obtain ⟨l, hl', el⟩ := hp.onto c hc'
      have b1 := bound j2 i hi'
      have b2 := bound j2 l hl'
      have g1 := hg.bnd i c
      have g2 := hg.bnd i (p.getD i 0)
      have epi : (p.map fun (k : Nat) => (k : Int)).getD i 0 = ((p.getD i 0 : Nat) : Int) := by
        simp [List.getD_eq_getElem?_getD, hp.len, hi']
      try dsimp only at b1 b2
      unfold assign_Prices_B3
      rw [ck_some (by omega), ck_some (by rw [List.length_map, hp.len]; exact hi'), epi, ck_some (by omega), ck_some (by rw [hg.row i hi']; omega), Int.toNat_natCast, ck_some (inI_small (by omega) (by omega)), ck_some (inI_small (by omega) (by omega))]
      have st := j2.step (fun σ hI => hp.best σ hI) hi' hl'
      have enew : ∀ j, j < gain.length → (q.set c (max (q.getD c 0) (q.getD (p.getD i 0) 0 + (gain.getD i []).getD c 0 - (gain.getD i []).getD (p.getD i 0) 0))).getD (p.getD j 0) 0 = if j = l then max (q.getD (p.getD l 0) 0) (q.getD (p.getD i 0) 0 + (Wg gain i (p.getD l 0) - Wg gain i (p.getD i 0))) else q.getD (p.getD j 0) 0 := fun j hj => by
        rw [getD_set']
        by_cases ej : j = l
        · subst ej
          rw [if_pos ⟨el, by omega⟩, if_pos rfl, el, Int.add_sub_assoc]
          rfl
        · rw [if_neg (fun z => ej (hp.inj j l hj hl' (by rw [z.1, el]))), if_neg ej]
      have mono : ∀ j, j < gain.length → q.getD (p.getD j 0) 0 ≤ (q.set c (max (q.getD c 0) (q.getD (p.getD i 0) 0 + (gain.getD i []).getD c 0 - (gain.getD i []).getD (p.getD i 0) 0))).getD (p.getD j 0) 0 := fun j hj => by
        rw [enew j hj]
        by_cases ej : j = l
        · subst ej; rw [if_pos rfl]; omega
        · rw [if_neg ej]; omega
      refine ⟨_, rfl, by simpa using j1, st.congr enew, fun k l' hk hl2 => ?_, fun l' hl2 hc2 => ?_⟩
      · have := j3 k l' hk hl2
        have := mono l' hl2
        omega
      · have := mono l' hl2
        by_cases ec : p.getD l' 0 = c
        · have ell : l' = l := hp.inj l' l hl2 hl' (by rw [ec, el])
          subst ell
          rw [enew l' hl2, if_pos rfl]
          have := j2.mono i hi'
          try dsimp only at this
          omega
        · have := j4 l' hl2 (by omega)
          omega
    rw [e, bind_some']
    refine ⟨_, rfl, j1, j2, fun k l hk hl2 => ?_⟩
    by_cases ek : k = i
    · subst ek
      exact j4 l hl2 (by have := hp.lt l hl2; omega)
    · exact j3 k l (by omega) hl2
  rw [e, bind_some']
  exact ⟨_, rfl, h1, h0.next h2 fun k l hk hl2 => h3 k l (by omega) hl2⟩
/-- the prices that are told -/
structure PricesOk (gain : List (List Int)) (p : List Nat) (rest price : List Int) : Prop where
  len1 : rest.length = gain.length
  len2 : price.length = gain.length
  h0 : ∀ k, k < gain.length → 0 ≤ price.getD k 0 ∧ price.getD k 0 ≤ 12000
  rest_eq : ∀ i, i < gain.length → rest.getD i 0 = Wg gain i (p.getD i 0) - price.getD (p.getD i 0) 0
  fits : ∀ i k, i < gain.length → k < gain.length → Wg gain i k ≤ rest.getD i 0 + price.getD k 0
theorem prices_ok (hbest : assign_Best_F gain = some (p.map fun (k : Nat) => (k : Int), s, 0)) : ∃ rest price, assign_Prices_F gain = some (rest, price, 0) ∧ PricesOk gain p rest price := by
  have n6 := hg.n6
  have hw : ∀ i j : Nat, (fun i j => Wg gain i (p.getD j 0)) i j - (fun i j => Wg gain i (p.getD j 0)) i i ≤ 2000 := fun i j => by
    have a := hg.bnd i (p.getD j 0); have b := hg.bnd i (p.getD i 0)
    dsimp only [Wg]
    omega
  unfold assign_Prices_F
  rw [hbest, bind_some']
  dsimp only
  rw [if_neg (by decide), ck_some (by omega), Int.toNat_natCast]
  obtain ⟨price, e1, h1, h2⟩ := forN_inv (f := assign_Prices_B1 gain (p.map fun (k : Nat) => (k : Int))) (fun r (q : List Int) => q.length = gain.length ∧ PrI gain.length (fun i j => Wg gain i (p.getD j 0)) r fun j => q.getD (p.getD j 0) 0) (n := gain.length) (k := 0) (s := List.replicate gain.length 0) ⟨by simp, PrI.zero.congr fun k hk => by
      show (List.replicate gain.length (0 : Int)).getD (p.getD k 0) 0 = 0
      rw [getD_replicate']; split <;> rfl⟩ fun r q _ _ ⟨i1, i2⟩ => prices_round hg hp i1 i2 r
  rw [e1, bind_some', Nat.zero_add] at *
  have hpr : ∀ k, k < gain.length → 0 ≤ price.getD k 0 ∧ price.getD k 0 ≤ 12000 := fun k hk => by
    obtain ⟨l, hl, el⟩ := hp.onto k hk
    have a := h2.h0 l hl
    obtain ⟨b, L, v, h3, h4⟩ := h2.up l hl
    have h5 := h3.small hw (by decide)
    have h6 := h3.le_n
    have h7 : (L.length : Int) * 2000 ≤ 6 * 2000 := Int.mul_le_mul_of_nonneg_right (by omega) (by decide)
    try dsimp only at a h4
    rw [el] at a h4
    omega
  obtain ⟨rest, e2, r1, r2⟩ := forN_inv (f := assign_Prices_B4 gain (p.map fun (k : Nat) => (k : Int)) price) (fun j (q : List Int) => q.length = gain.length ∧ ∀ i, i < j → q.getD i 0 = Wg gain i (p.getD i 0) - price.getD (p.getD i 0) 0) (n := gain.length) (k := 0) (s := List.replicate gain.length 0) ⟨by simp, fun i hi => absurd hi (by omega)⟩ fun j q _ hj ⟨i1, i2⟩ => by
    have hj' : j < gain.length := by omega
    have pj := hp.lt j hj'
    have epj : (p.map fun (k : Nat) => (k : Int)).getD j 0 = ((p.getD j 0 : Nat) : Int) := by
      simp [List.getD_eq_getElem?_getD, hp.len, hj']
    have b1 := hpr _ pj
    have b2 := hg.bnd j (p.getD j 0)
    unfold assign_Prices_B4
    rw [ck_some (by rw [List.length_map, hp.len]; exact hj'), epj, ck_some (by rw [hg.row j hj']; omega), ck_some (by omega), Int.toNat_natCast, ck_some (inI_small (by omega) (by omega)), ck_some (by omega)]
    refine ⟨_, rfl, by simpa using i1, fun i hi => ?_⟩
    rw [getD_set']
    by_cases ei : i = j
    · subst ei
      rw [if_pos ⟨rfl, by omega⟩]; rfl
    · rw [if_neg (fun z => ei z.1)]
      exact i2 i (by omega)
  rw [e2, bind_some']
  refine ⟨rest, price, rfl, r1, h1, hpr, fun i hi => r2 i (by omega), fun i k hi hk => ?_⟩
  obtain ⟨l, hl, el⟩ := hp.onto k hk
  have := h2.rest (fun σ hI => hp.best σ hI) (by omega) hi hl
  try dsimp only at this
  rw [el] at this
  rw [r2 i (by omega)]
  omega
end
theorem assign_bad {gain : List (List Int)} (h : ¬ GainOk gain) : ∃ e, e ≠ 0 ∧ assign_Best_F gain = some ([], 0, e) ∧ assign_Prices_F gain = some ([], [], e) := by
  obtain ⟨e, he, hiff⟩ := assign_check gain
  have hne : e ≠ 0 := fun z => h (hiff.1 z)
  have hb : assign_Best_F gain = some ([], 0, e) := by
    unfold assign_Best_F
    rw [he, bind_some', if_pos hne]
  refine ⟨e, hne, hb, ?_⟩
  unfold assign_Prices_F
  rw [hb, bind_some']
  dsimp only
  rw [if_pos hne]
end Go.Proofs.Ytdjllkoljpjohaa
