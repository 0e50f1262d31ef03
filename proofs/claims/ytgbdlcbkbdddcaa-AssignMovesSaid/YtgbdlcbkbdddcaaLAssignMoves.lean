/- AssignMoves: the law's function answers true. -/
import Derived.Test.YtgbdlcbkbdddcaaPassign
import Derived.Test.YtgbdlcbkbdddcaaPbirk
import Derived.Test.YtgbdlcbkbdddcaaPref
import Derived.Test.YtgbdlcbkbdddcaaKAssignMoves
namespace Go.Proofs.Ytgbdlcbkbdddcaa
open Go Go.Proofs.Ytgbdlcbkbdddcaa.Sx
set_option linter.unusedVariables false
set_option linter.unusedSimpArgs false
theorem getD_geM {α : Type} {l : List α} {d : α} {i : Nat} (h : l.length ≤ i) : l.getD i d = d := by simp [List.getD_eq_getElem?_getD, h]
theorem assignsM_ok : weirkeep_assigns_F = some true := by kernel_rfl
theorem best_badM {gain : List (List Int)} (h : ¬ GainOk gain) : ∃ e, e ≠ 0 ∧ assign_Best_F gain = some ([], 0, e) := by
  obtain ⟨e, he, hiff⟩ := assign_check gain
  have hne : e ≠ 0 := fun z => h (hiff.1 z)
  refine ⟨e, hne, ?_⟩
  unfold assign_Best_F
  rw [he, bind_some', if_pos hne]
theorem BestP.injM {gain : List (List Int)} {p : List Nat} {s : Int} (h : BestP gain p s) : InjN gain.length fun i => p.getD i 0 := ⟨h.lt, h.inj⟩
theorem InjN.inv {n : Nat} {τ : Nat → Nat} (h : InjN n τ) : ∃ σ, InjN n σ ∧ (∀ k, k < n → τ (σ k) = k) ∧ ∀ i, i < n → σ (τ i) = i := by
  have key : ∀ k : Nat, ∃ i : Nat, k < n → i < n ∧ τ i = k := fun k => by
    by_cases c : k < n
    · obtain ⟨i, h1, h2⟩ := h.onto c
      exact ⟨i, fun _ => ⟨h1, h2⟩⟩
    · exact ⟨0, fun z => absurd z c⟩
  obtain ⟨σ, hσ⟩ := Classical.axiomOfChoice key
  exact ⟨σ, ⟨fun k hk => (hσ k hk).1, fun a b ha hb e => by rw [← (hσ a ha).2, ← (hσ b hb).2, e]⟩, fun k hk => (hσ k hk).2, fun i hi => h.inj _ _ (hσ _ (h.lt i hi)).1 hi (hσ _ (h.lt i hi)).2⟩
theorem BestP.leM {gain : List (List Int)} {p : List Nat} {s : Int} (h : BestP gain p s) {τ : Nat → Nat} (hτ : InjN gain.length τ) : tot (fun i => Wg gain i (τ i)) gain.length ≤ s := by
  obtain ⟨ρ, h1, h2, _⟩ := h.injM.inv
  have := h.best _ (h1.comp hτ)
  rw [h.sum, tot_congr (f := fun i => Wg gain i (τ i)) (g := fun i => Wg gain i (p.getD (ρ (τ i)) 0)) fun i hi => by
    have := h2 _ (hτ.lt i hi)
    skip
    rw [this]]
  exact this
theorem best_moved {g1 g2 : List (List Int)} {p1 p2 : List Nat} {s1 s2 c : Int} (h1 : BestP g1 p1 s1) (h2 : BestP g2 p2 s2) (hl : g2.length = g1.length) (hv : ∀ τ, InjN g1.length τ → tot (fun i => Wg g2 i (τ i)) g1.length = tot (fun i => Wg g1 i (τ i)) g1.length + c) : s2 = s1 + c := by
  have i2 := h2.injM
  rw [hl] at i2
  have a1 := h1.leM i2
  have a2 := hv _ i2
  have a3 := h2.sum
  rw [hl] at a3
  have b1 := h1.injM
  have b2 := hv _ b1
  have b3 := h1.sum
  have b4 := b1
  rw [← hl] at b4
  have b5 := h2.leM b4
  rw [hl] at b5
  omega
theorem best_turned {g1 g2 : List (List Int)} {p1 p2 : List Nat} {s1 s2 : Int} (h1 : BestP g1 p1 s1) (h2 : BestP g2 p2 s2) (hl : g2.length = g1.length) (hv : ∀ i k, i < g1.length → k < g1.length → Wg g2 i k = Wg g1 k i) : s2 = s1 := by
  have key : ∀ {ga gb : List (List Int)} {pa pb : List Nat} {sa sb : Int}, BestP ga pa sa → BestP gb pb sb → gb.length = ga.length → (∀ i k, i < ga.length → k < ga.length → Wg gb i k = Wg ga k i) → sb ≤ sa := fun {ga gb pa pb sa sb} ha hb hl hv => by
    have i2 := hb.injM
    rw [hl] at i2
    obtain ⟨σ, c1, c2, c3⟩ := i2.inv
    have a1 := ha.leM c1
    have a2 := tot_permB i2 fun k => Wg ga k (σ k)
    have a3 := hb.sum
    rw [hl] at a3
    rw [a3, tot_congr (f := fun i => Wg gb i (pb.getD i 0)) (g := fun i => Wg ga (pb.getD i 0) (σ (pb.getD i 0))) fun i hi => by
      have := c3 i hi
      skip
      rw [hv i _ hi (i2.lt i hi), this]]
    skip
    omega
  have x1 := key h1 h2 hl hv
  have x2 := key h2 h1 hl.symm fun i k hi hk => (hv k i (by omega) (by omega)).symm
  omega
def colG (gain : List (List Int)) (m a : Nat) : List Int := (List.range m).map fun j => Wg gain j a
theorem colG_more (gain : List (List Int)) (m a : Nat) : colG gain (m + 1) a = colG gain m a ++ [Wg gain m a] := by
  unfold colG
  rw [List.range_succ, List.map_append]
  rfl
theorem colG_get (gain : List (List Int)) {m a k : Nat} (h : k < m) : (colG gain m a).getD k 0 = Wg gain k a := by simp [colG, h]
theorem colG_len (gain : List (List Int)) (m a : Nat) : (colG gain m a).length = m := by simp [colG]
theorem moves_inner {gain : List (List Int)} (hg : GainOk gain) {k : Nat} (hk : k < gain.length) {g0 : List (List Int)} (h0 : g0.length = gain.length) (he : g0.getD k [] = []) :
    ∃ g, forN (weirkeep_AssignMoves_B2 gain k) gain.length 0 g0 = some g ∧ g.length = gain.length ∧ ∀ a, g.getD a [] = if a = k then colG gain gain.length k else g0.getD a [] := by
  obtain ⟨g, e, i1, i2⟩ := forN_inv (f := weirkeep_AssignMoves_B2 gain k) (fun m g => g.length = gain.length ∧ ∀ a, g.getD a [] = if a = k then colG gain m k else g0.getD a []) (n := gain.length) (k := 0) (s := g0) ⟨h0, fun a => by
    by_cases c : a = k
    · subst c; rw [if_pos rfl, he]; rfl
    · rw [if_neg c]⟩ fun m g _ hm ⟨i1, i2⟩ => by
    have hm' : m < gain.length := by omega
    have hr := hg.row m hm'
    have h6 := hg.n6
    have hgk : g.getD k [] = colG gain m k := by rw [i2 k, if_pos rfl]
    unfold weirkeep_AssignMoves_B2
    rw [ck_some (by omega), ck_some (by omega), hgk, ck_some (by rw [colG_len]; omega)]
    refine ⟨_, rfl, by simp [i1], fun a => ?_⟩
    rw [getD_set']
    by_cases c : a = k
    · rw [if_pos ⟨c, by omega⟩, if_pos c, colG_more]; rfl
    · rw [if_neg fun z => c z.1, if_neg c, i2 a, if_neg c]
  rw [Nat.zero_add] at i2
  exact ⟨g, e, i1, i2⟩
theorem moves_loop {gain : List (List Int)} (hg : GainOk gain) {r : Nat} (hr : r < gain.length) {b : Int} (b0 : 0 ≤ b) (b1 : b < 50) :
    ∃ l g, forN (weirkeep_AssignMoves_B1 gain b) gain.length 0 (gain.getD r [], List.replicate gain.length ([] : List Int)) = some (l, g) ∧ l.length = gain.length ∧ (∀ x, x < gain.length → l.getD x 0 = Wg gain r x + b) ∧ g.length = gain.length ∧ ∀ a, a < gain.length → g.getD a [] = colG gain gain.length a := by
  obtain ⟨⟨l, g⟩, e, i1, i2, i3, i4⟩ := forN_inv (f := weirkeep_AssignMoves_B1 gain b) (fun k σ => σ.1.length = gain.length ∧ (∀ x, x < gain.length → σ.1.getD x 0 = Wg gain r x + if x < k then b else 0) ∧ σ.2.length = gain.length ∧ ∀ a, a < gain.length → σ.2.getD a [] = if a < k then colG gain gain.length a else []) (n := gain.length) (k := 0) (s := (gain.getD r [], List.replicate gain.length ([] : List Int))) ⟨hg.row r hr, fun x _ => (Int.add_zero _).symm, by simp, fun a ha => by simp [List.getD_eq_getElem?_getD, ha]⟩ fun k σ _ hk ⟨i1, i2, i3, i4⟩ => by
    obtain ⟨l, g⟩ := σ
    dsimp only at i1 i2 i3 i4
    have hk' : k < gain.length := by omega
    obtain ⟨g', e, j1, j2⟩ := moves_inner hg hk' i3 (by rw [i4 k hk', if_neg (by omega)])
    have hv := i2 k hk'
    rw [if_neg (by omega)] at hv
    have hb := hg.bnd r k
    have hw : Wg gain r k = (gain.getD r []).getD k 0 := rfl
    unfold weirkeep_AssignMoves_B1
    dsimp only
    rw [ck_some (by omega), ck_some (inI_small (by omega) (by omega)), e, bind_some']
    refine ⟨_, rfl, by simp [i1], fun x hx => ?_, j1, fun a ha => ?_⟩
    · dsimp only
      rw [getD_set']
      by_cases c : x = k
      · subst c
        rw [if_pos ⟨rfl, by omega⟩, if_pos (by omega)]; omega
      · rw [if_neg fun z => c z.1, i2 x hx]
        by_cases c2 : x < k
        · rw [if_pos c2, if_pos (by omega)]
        · rw [if_neg c2, if_neg (by omega)]
    · dsimp only
      rw [j2 a]
      by_cases c : a = k
      · subst c; rw [if_pos rfl, if_pos (by omega)]
      · rw [if_neg c, i4 a ha]
        by_cases c2 : a < k
        · rw [if_pos c2, if_pos (by omega)]
        · rw [if_neg c2, if_neg (by omega)]
  dsimp only at i1 i2 i3 i4
  refine ⟨l, g, e, i1, fun x hx => ?_, i3, fun a ha => ?_⟩
  · rw [i2 x hx, if_pos (by omega)]
  · rw [i4 a ha, if_pos (by omega)]
theorem AssignMoves_true (gain : List (List Int)) (i by_ : Int) : weirkeep_AssignMoves_F gain i by_ = some true := by
  unfold weirkeep_AssignMoves_F
  rw [assignsM_ok, bind_some', if_neg (by decide)]
  by_cases h : GainOk gain
  · have n6 := h.n6
    obtain ⟨p, s, hb, hp⟩ := assign_best h
    rw [hb, bind_some']
    dsimp only
    rw [if_neg (by decide)]
    by_cases c0 : ((gain.length : Nat) : Int) = 0
    · rw [if_pos c0]
      refine congrArg some (decide_eq_true ?_)
      rw [hp.sum, show gain.length = 0 by omega]
      rfl
    rw [if_neg c0]
    obtain ⟨r, er, r0, r1⟩ := rest_ok (n := i) (m := ((gain.length : Nat) : Int)) (by omega) (by omega)
    obtain ⟨b, eb, b0, b1⟩ := rest_ok (n := by_) (m := 50) (by decide) (by decide)
    have hr : r.toNat < gain.length := by omega
    have hrow := h.row r.toNat hr
    have ecl : slices_Clone_intL_F gain = some gain := by
      unfold slices_Clone_intL_F
      rw [ck_some (by omega)]
      rfl
    have ecl2 : slices_Clone_int_F (gain.getD r.toNat []) = some (gain.getD r.toNat []) := by
      unfold slices_Clone_int_F
      rw [ck_some (by omega)]
      rfl
    rw [er, bind_some', eb, bind_some', ecl, bind_some', ck_some (by omega), ck_some (by omega), ecl2, bind_some', ck_some (by omega)]
    obtain ⟨l, g, e, l1, l2, g1, g2⟩ := moves_loop h hr b0 b1
    rw [show (((gain.length : Nat) : Int)).toNat = gain.length from Int.toNat_natCast _, e, bind_some']
    dsimp only
    -- the table turned
    have wT : ∀ a k, a < gain.length → k < gain.length → Wg g a k = Wg gain k a := fun a k ha hk => by
      show (g.getD a []).getD k 0 = _
      rw [g2 a ha, colG_get _ hk]
    have hT : GainOk g := ⟨by omega, fun a ha => by rw [g2 a (by omega), colG_len, g1], fun a k => by
      by_cases ha : a < gain.length
      · rw [g2 a ha]
        by_cases hk : k < gain.length
        · rw [colG_get _ hk]; exact h.bnd k a
        · rw [getD_geM (by rw [colG_len]; omega)]; omega
      · rw [getD_geM (l := g) (by omega)]; simp⟩
    obtain ⟨pT, u, hbT, hpT⟩ := assign_best hT
    have hu : u = s := best_turned hp hpT g1 wT
    -- the table with one row raised
    have ml : (gain.set r.toNat l).length = gain.length := List.length_set ..
    have wM : ∀ a k, a < gain.length → k < gain.length → Wg (gain.set r.toNat l) a k = Wg gain a k + if a = r.toNat then b else 0 := fun a k ha hk => by
      show ((gain.set r.toNat l).getD a []).getD k 0 = _
      rw [getD_set']
      by_cases c : a = r.toNat
      · rw [if_pos ⟨c, hr⟩, if_pos c, l2 k hk, c]
      · rw [if_neg fun z => c z.1, if_neg c, Int.add_zero]; rfl
    have hs : -6000 ≤ s ∧ s ≤ 6000 := by
      have t1 : ∀ m : Nat, ∀ f : Nat → Int, (∀ i, i < m → -1000 ≤ f i ∧ f i ≤ 1000) → -1000 * (m : Int) ≤ tot f m ∧ tot f m ≤ 1000 * (m : Int) := fun m f hf => by
        induction m with
        | zero => simp [tot]
        | succ m ih =>
          have := ih fun i hi => hf i (by omega)
          have := hf m (by omega)
          simp only [tot]
          omega
      have := t1 gain.length (fun i => Wg gain i (p.getD i 0)) fun i _ => h.bnd i _
      rw [hp.sum]
      omega
    by_cases hM : GainOk (gain.set r.toNat l)
    · obtain ⟨pM, t, hbM, hpM⟩ := assign_best hM
      have ht : t = s + b := best_moved hp hpM ml fun τ hτ => by
        rw [tot_congr (f := fun i => Wg (gain.set r.toNat l) i (τ i)) (g := fun i => Wg gain i (τ i) + if i = r.toNat then b else 0) fun i hi => wM i _ hi (hτ.lt i hi), tot_add (fun i => Wg gain i (τ i)) (fun i => if i = r.toNat then b else 0), tot_single (f := fun i => if i = r.toNat then b else 0) hr (fun i _ hne => if_neg hne), if_pos rfl]
      rw [hbM, bind_some']
      dsimp only
      rw [hbT, bind_some']
      dsimp only
      rw [if_neg (by decide), ck_some (inI_small (by omega) (by omega)), if_pos ht, if_pos rfl]
      exact congrArg some (decide_eq_true hu)
    · obtain ⟨er', he', hbM⟩ := best_badM hM
      rw [hbM, bind_some']
      dsimp only
      rw [hbT, bind_some']
      dsimp only
      rw [if_pos he', if_pos rfl]
      exact congrArg some (decide_eq_true hu)
  · obtain ⟨e, he, hb⟩ := best_badM h
    rw [hb, bind_some']
    dsimp only
    rw [if_pos he]
    rfl
end Go.Proofs.Ytgbdlcbkbdddcaa
