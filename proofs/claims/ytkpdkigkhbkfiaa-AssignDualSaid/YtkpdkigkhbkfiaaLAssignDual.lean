/- AssignDual: the law's function answers true. -/
import Derived.Test.YtkpdkigkhbkfiaaPassign
import Derived.Test.YtkpdkigkhbkfiaaPnum
import Derived.Test.YtkpdkigkhbkfiaaKAssignDual
namespace Go.Proofs.Ytkpdkigkhbkfiaa
open Go Go.Proofs.Ytkpdkigkhbkfiaa.Sx
set_option linter.unusedVariables false
set_option linter.unusedSimpArgs false
theorem assigns_eq : weirkeep_assigns_F = some true := by kernel_rfl
theorem best_bad {gain : List (List Int)} (h : ¬ GainOk gain) : ∃ e, e ≠ 0 ∧ assign_Best_F gain = some ([], 0, e) := by
  obtain ⟨e, he, hiff⟩ := assign_check gain
  have hne : e ≠ 0 := fun z => h (hiff.1 z)
  refine ⟨e, hne, ?_⟩
  unfold assign_Best_F
  rw [he, bind_some', if_pos hne]
theorem tot_b5 {f : Nat → Int} {B : Int} : ∀ {m : Nat}, (∀ i, i < m → -B ≤ f i ∧ f i ≤ B) → -(B * (m : Int)) ≤ tot f m ∧ tot f m ≤ B * (m : Int)
  | 0, _ => by simp [tot]
  | m + 1, h => by
    have := tot_b5 (f := f) (B := B) (m := m) fun i hi => h i (by omega)
    have := h m (by omega)
    have e : tot f (m + 1) = tot f m + f m := rfl
    rw [e, Int.natCast_succ, Int.mul_add]
    omega
theorem AssignDual_true (gain : List (List Int)) (rest price way : List Int) (hw : way.length ≤ 17592186044416) : weirkeep_AssignDual_F gain rest price way = some true := by
  unfold weirkeep_AssignDual_F
  rw [assigns_eq, bind_some', if_neg (by decide)]
  by_cases h : GainOk gain
  case neg =>
    obtain ⟨e, he, eq⟩ := best_bad h
    rw [eq, bind_some']
    dsimp only
    rw [if_pos he]; rfl
  have n6 := h.n6
  obtain ⟨p, s, hb, hp⟩ := assign_best h
  rw [hb, bind_some']
  dsimp only
  rw [if_neg (by decide)]
  obtain ⟨b, eb, hnum⟩ := numbers_cases hw (gain.length : Int)
  have hbnd : ∀ i k, -1000 ≤ Wg gain i k ∧ Wg gain i k ≤ 1000 := h.bnd
  have hs : s ≤ 6000 := by
    have := tot_b5 (f := fun i => Wg gain i (p.getD i 0)) (B := 1000) (m := gain.length) fun i _ => hbnd i _
    have := hp.sum
    omega
  -- no way is better
  have mid : ((weirref_Numbers_F way ((gain.length : Nat) : Int)).bind fun r15 => if r15 = true then (forN (weirkeep_AssignDual_B1 gain way) way.length 0 0).bind fun x23 => if s < x23 then some (.ret false) else some (.go ()) else some (.go ()) : Option (Ex Unit Bool)) = some (.go ()) := by
    rw [eb, bind_some']
    by_cases c : b = true
    · obtain ⟨h1, h2, h3⟩ := hnum c
      have hl : way.length = gain.length := by omega
      rw [hl] at h2 h3
      obtain ⟨x, ex, hx⟩ := forN_inv (f := weirkeep_AssignDual_B1 gain way) (fun j (x : Int) => x = tot (fun i => Wg gain i (way.getD i 0).toNat) j) (n := way.length) (k := 0) (s := 0) rfl fun j x _ hj hI => by
        have hj' : j < gain.length := by omega
        have r := h3 j hj'
        have rl := h.row j hj'
        have bj := tot_b5 (f := fun i => Wg gain i (way.getD i 0).toNat) (B := 1000) (m := j) fun i _ => hbnd i _
        have bj2 := hbnd j (way.getD j 0).toNat
        have ew : (gain.getD j []).getD ((way.getD j 0).toNat) (0 : Int) = Wg gain j (way.getD j 0).toNat := rfl
        unfold weirkeep_AssignDual_B1
        rw [ck_some hj', ck_some (by omega), ew, hI, ck_some (inI_small (by omega) (by omega))]
        exact ⟨_, rfl, rfl⟩
      rw [Nat.zero_add, hl] at hx
      have hle : x ≤ s := by
        have ch : ∀ i, ∃ y, i < gain.length → y < gain.length ∧ p.getD y 0 = (way.getD i 0).toNat := fun i => by
          by_cases d : i < gain.length
          · obtain ⟨y, hy, ey⟩ := hp.onto _ (h2.lt i d)
            exact ⟨y, fun _ => ⟨hy, ey⟩⟩
          · exact ⟨0, fun w => absurd w d⟩
        obtain ⟨σ, hσ⟩ := Classical.axiomOfChoice ch
        have inj : InjN gain.length σ := ⟨fun i hi => (hσ i hi).1, fun i j hi hj e => h2.inj i j hi hj (by
          have a := (hσ i hi).2; have b := (hσ j hj).2
          rw [e] at a
          omega)⟩
        have hb2 : tot (fun i => Wg gain i (p.getD (σ i) 0)) gain.length ≤ tot (fun i => Wg gain i (p.getD i 0)) gain.length := hp.best σ inj
        rw [hx, hp.sum]
        refine Int.le_trans (Int.le_of_eq (tot_congr fun i hi => ?_)) hb2
        rw [(hσ i hi).2]
      rw [if_pos c, ex, bind_some', if_neg (by omega)]
    · rw [if_neg c]
  have mid' := mid
  rw [mid', bind_some']
  dsimp only
  by_cases c1 : ((rest.length : Nat) : Int) ≠ ((gain.length : Nat) : Int)
  · rw [if_pos c1]
  by_cases c2 : ((price.length : Nat) : Int) ≠ ((gain.length : Nat) : Int)
  · rw [if_neg c1, if_pos c2]
  rw [if_neg c1, if_neg c2]
  obtain ⟨q, e, hq⟩ := forC_or (f := weirkeep_AssignDual_B2 rest price) (fun j x => x = tot (fun i => rest.getD i 0 + price.getD i 0) j ∧ ∀ i, i < j → (-5000 ≤ rest.getD i 0 ∧ rest.getD i 0 ≤ 5000) ∧ -5000 ≤ price.getD i 0 ∧ price.getD i 0 ≤ 5000)
    (fun q => match q with | .go x => x = tot (fun i => rest.getD i 0 + price.getD i 0) gain.length ∧ ∀ i, i < gain.length → (-5000 ≤ rest.getD i 0 ∧ rest.getD i 0 ≤ 5000) ∧ -5000 ≤ price.getD i 0 ∧ price.getD i 0 ≤ 5000 | .ret r => r = true) (n := gain.length) (k := 0) (s := 0) ⟨rfl, fun i hi => absurd hi (by omega)⟩ (fun j x _ hj ⟨i1, i2⟩ => by
      have bj := tot_b5 (f := fun i => rest.getD i 0 + price.getD i 0) (B := 10000) (m := j) fun i hi => by have := i2 i hi; omega
      unfold weirkeep_AssignDual_B2
      rw [ck_some (by omega)]
      by_cases d1 : rest.getD j 0 < -5000
      · rw [if_pos d1]; exact .inr (.inr ⟨_, rfl, rfl⟩)
      by_cases d2 : 5000 < rest.getD j 0
      · rw [if_neg d1, if_pos d2]; exact .inr (.inr ⟨_, rfl, rfl⟩)
      rw [if_neg d1, if_neg d2, ck_some (by omega)]
      by_cases d3 : price.getD j 0 < -5000
      · rw [if_pos d3]; exact .inr (.inr ⟨_, rfl, rfl⟩)
      by_cases d4 : 5000 < price.getD j 0
      · rw [if_neg d3, if_pos d4]; exact .inr (.inr ⟨_, rfl, rfl⟩)
      rw [if_neg d3, if_neg d4, ck_some (inI_small (by omega) (by omega)), ck_some (inI_small (by omega) (by omega))]
      refine .inl ⟨_, rfl, by rw [i1]; rfl, fun i hi => ?_⟩
      by_cases z : i = j
      · rw [z]; omega
      · exact i2 i (by omega)) (fun x h => by rw [Nat.zero_add] at h; exact h)
  rw [e, bind_some']
  match q, hq with
  | .ret r, h => dsimp only; rw [h]
  | .go x, ⟨h1, h2⟩ =>
    dsimp only
    obtain ⟨q2, e2, hq2⟩ := forC_or (f := weirkeep_AssignDual_B3 gain rest price) (fun j _ => ∀ i, i < j → ∀ k, k < gain.length → Wg gain i k ≤ rest.getD i 0 + price.getD k 0)
      (fun q => match q with | .go _ => ∀ i, i < gain.length → ∀ k, k < gain.length → Wg gain i k ≤ rest.getD i 0 + price.getD k 0 | .ret r => r = true) (n := gain.length) (k := 0) (s := ()) (fun i hi => absurd hi (by omega)) (fun j _ _ hj hI => by
      have hj' : j < gain.length := by omega
      have rl := h.row j hj'
      unfold weirkeep_AssignDual_B3
      obtain ⟨q3, e3, hq3⟩ := forC_or (f := weirkeep_AssignDual_B4 gain rest price j) (fun l _ => ∀ k, k < l → Wg gain j k ≤ rest.getD j 0 + price.getD k 0)
        (fun q => match q with | .go _ => ∀ k, k < gain.length → Wg gain j k ≤ rest.getD j 0 + price.getD k 0 | .ret r => r = .ret true) (n := gain.length) (k := 0) (s := ()) (fun i hi => absurd hi (by omega)) (fun l _ _ hl hI2 => by
        have b1 := h2 j hj'
        have b2 := h2 l (by omega)
        have ew : (gain.getD j []).getD l (0 : Int) = Wg gain j l := rfl
        unfold weirkeep_AssignDual_B4
        rw [ck_some (by omega), ck_some (by omega), ck_some (inI_small (by omega) (by omega)), ck_some (by omega), ew]
        by_cases d : rest.getD j 0 + price.getD l 0 < Wg gain j l
        · rw [if_pos d]; exact .inr (.inr ⟨_, rfl, rfl⟩)
        · rw [if_neg d]
          refine .inl ⟨_, rfl, fun k hk => ?_⟩
          by_cases z : k = l
          · rw [z]; omega
          · exact hI2 k (by omega)) (fun _ h => by rw [Nat.zero_add] at h; exact h)
      rw [e3, bind_some']
      match q3, hq3 with
      | .ret r, h => subst h; exact .inr (.inr ⟨_, rfl, rfl⟩)
      | .go _, h =>
        refine .inl ⟨_, rfl, fun i hi => ?_⟩
        by_cases z : i = j
        · rw [z]; exact h
        · exact hI i (by omega)) (fun _ h => by rw [Nat.zero_add] at h; exact h)
    rw [e2, bind_some']
    match q2, hq2 with
    | .ret r, h => dsimp only; rw [h]
    | .go _, h3 =>
      dsimp only
      have perm : tot (fun i => price.getD (p.getD i 0) 0) gain.length = tot (fun i => price.getD i 0) gain.length := by
        have e1 : tot (fun i => price.getD (p.getD i 0) 0) gain.length = tot (fun i => tot (fun k => if p.getD i 0 = k then price.getD k 0 else 0) gain.length) gain.length := tot_congr fun i hi => by
          rw [tot_single (k := p.getD i 0) (hp.lt i hi) (fun k _ hne => if_neg fun w => hne w.symm), if_pos rfl]
        rw [e1, tot_swap]
        refine tot_congr fun k hk => ?_
        obtain ⟨i, hi, ei⟩ := hp.onto k hk
        rw [tot_single (k := i) hi (fun j hj hne => if_neg fun w => hne (hp.inj j i hj hi (by rw [w, ei]))), if_pos ei]
      have hle : s ≤ x := by
        rw [hp.sum, h1, tot_add, ← perm, ← tot_add]
        exact tot_le fun i hi => h3 i hi _ (hp.lt i hi)
      rw [decide_eq_true hle]
end Go.Proofs.Ytkpdkigkhbkfiaa
