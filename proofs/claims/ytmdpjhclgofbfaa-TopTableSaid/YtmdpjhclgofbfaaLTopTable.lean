/- TopTable: the law's function answers true. -/
import Derived.Test.YtmdpjhclgofbfaaPdsplit
import Derived.Test.YtmdpjhclgofbfaaPassign
import Derived.Test.YtmdpjhclgofbfaaKTopTable
namespace Go.Proofs.Ytmdpjhclgofbfaa
open Go Go.Proofs.Ytmdpjhclgofbfaa.Sx
set_option linter.unusedVariables false
set_option linter.unusedSimpArgs false
theorem best_bad {gain : List (List Int)} (h : ¬ GainOk gain) : ∃ e, e ≠ 0 ∧ assign_Best_F gain = some ([], 0, e) := by
  obtain ⟨e, he, hiff⟩ := assign_check gain
  have hne : e ≠ 0 := fun z => h (hiff.1 z)
  refine ⟨e, hne, ?_⟩
  unfold assign_Best_F
  rw [he, bind_some', if_pos hne]
theorem worksA_ok : weirtop_works_F = some true := by kernel_rfl
/-- no way to assign is better than the best -/
theorem BestP.le {gain : List (List Int)} {p : List Nat} {s : Int} (h : BestP gain p s) {τ : Nat → Nat} (hτ : InjN gain.length τ) : tot (fun i => Wg gain i (τ i)) gain.length ≤ s := by
  have key : ∀ i : Nat, ∃ j : Nat, i < gain.length → j < gain.length ∧ p.getD j 0 = τ i := fun i => by
    by_cases c : i < gain.length
    · obtain ⟨j, h1, h2⟩ := h.onto _ (hτ.lt i c)
      exact ⟨j, fun _ => ⟨h1, h2⟩⟩
    · exact ⟨0, fun z => absurd z c⟩
  obtain ⟨σ, hσ⟩ := Classical.axiomOfChoice key
  have hI : InjN gain.length σ := ⟨fun i hi => (hσ i hi).1, fun i j hi hj e => hτ.inj i j hi hj (by rw [← (hσ i hi).2, ← (hσ j hj).2, e])⟩
  have := h.best σ hI
  rw [h.sum, tot_congr (f := fun i => Wg gain i (τ i)) (g := fun i => Wg gain i (p.getD (σ i) 0)) fun i hi => by rw [(hσ i hi).2]]
  exact this
theorem tot_rng {f : Nat → Int} {B : Int} : ∀ {m : Nat}, (∀ i, i < m → -B ≤ f i ∧ f i ≤ B) → -(B * (m : Int)) ≤ tot f m ∧ tot f m ≤ B * (m : Int)
  | 0, _ => by simp [tot]
  | m + 1, h => by
    have h1 := tot_rng (m := m) fun i hi => h i (by omega)
    have h2 := h m (by omega)
    have e : tot f (m + 1) = tot f m + f m := rfl
    have e2 : B * ((m + 1 : Nat) : Int) = B * (m : Int) + B := by rw [Int.natCast_add, Int.mul_add]; simp
    omega
theorem mul_rng {a b A B : Int} (h1 : 0 ≤ a) (h2 : a ≤ A) (h3 : -B ≤ b) (h4 : b ≤ B) : -(A * B) ≤ a * b ∧ a * b ≤ A * B := by
  have hB : 0 ≤ B := by omega
  have e1 : a * b ≤ a * B := Int.mul_le_mul_of_nonneg_left h4 h1
  have e2 : a * B ≤ A * B := Int.mul_le_mul_of_nonneg_right h2 hB
  have e3 : a * (-B) ≤ a * b := Int.mul_le_mul_of_nonneg_left h3 h1
  rw [Int.mul_neg] at e3
  omega
section
variable {t gain : List (List Int)} {n : Nat}
/-- what the law adds of the table -/
theorem all_ok (hn6 : n ≤ 6) (ht : t.length = n) (hr : ∀ i, i < n → (t.getD i []).length = n) (hb : ∀ i k, i < n → k < n → 0 ≤ Mt t i k ∧ Mt t i k ≤ 1000) (hg : GainOk gain) (hgl : gain.length = n) :
    forN (weirtop_TopTable_B1 t gain) t.length 0 0 = some (tot (fun i => tot (fun k => Mt t i k * Wg gain i k) n) n) := by
  have hterm : ∀ i k, i < n → k < n → -1000000 ≤ Mt t i k * Wg gain i k ∧ Mt t i k * Wg gain i k ≤ 1000000 := fun i k hi hk => by
    have h1 := hb i k hi hk
    have h2 := hg.bnd i k
    have := mul_rng (a := Mt t i k) (b := Wg gain i k) (A := 1000) (B := 1000) h1.1 h1.2 h2.1 h2.2
    omega
  have hrow : ∀ i, i < n → ∀ m, m ≤ n → -6000000 ≤ tot (fun k => Mt t i k * Wg gain i k) m ∧ tot (fun k => Mt t i k * Wg gain i k) m ≤ 6000000 := fun i hi m hm => by
    have := tot_rng (f := fun k => Mt t i k * Wg gain i k) (B := 1000000) (m := m) fun k hk => hterm i k hi (by omega)
    omega
  obtain ⟨x, e, h⟩ := forN_inv (f := weirtop_TopTable_B1 t gain) (fun j x => x = tot (fun i => tot (fun k => Mt t i k * Wg gain i k) n) j) (n := t.length) (k := 0) (s := (0 : Int)) rfl fun j x _ hj hx => by
    have hj' : j < n := by omega
    have hxb := tot_rng (f := fun i => tot (fun k => Mt t i k * Wg gain i k) n) (B := 6000000) (m := j) fun i hi => hrow i (by omega) n (Nat.le_refl _)
    rw [← hx] at hxb
    obtain ⟨y, e2, h2⟩ := forN_inv (f := weirtop_TopTable_B2 t gain j) (fun l y => y = x + tot (fun k => Mt t j k * Wg gain j k) l) (n := (t.getD j []).length) (k := 0) (s := x) (Int.add_zero _).symm fun l y _ hl hy => by
      rw [hr j hj'] at hl
      have hl' : l < n := by omega
      have h3 := hterm j l hj' hl'
      have h4 := hrow j hj' l (by omega)
      have hgr := hg.row j (by omega)
      unfold weirtop_TopTable_B2
      have e0 : (t.getD j []).getD l 0 * (gain.getD j []).getD l 0 = Mt t j l * Wg gain j l := rfl
      rw [ck_some (by omega), ck_some (by omega), e0, ck_some (inI_small (by omega) (by omega)), ck_some (inI_small (by omega) (by omega))]
      refine ⟨_, rfl, ?_⟩
      have e4 : tot (fun k => Mt t j k * Wg gain j k) (l + 1) = tot (fun k => Mt t j k * Wg gain j k) l + Mt t j l * Wg gain j l := rfl
      rw [e4, hy]
      omega
    unfold weirtop_TopTable_B1
    rw [e2, bind_some', h2, Nat.zero_add, hr j hj', hx]
    exact ⟨_, rfl, rfl⟩
  rw [e, h, Nat.zero_add, ht]
theorem parts_ok {l : List Piece} {s : Int} (hn6 : n ≤ 6) (hs : s ≤ 6000) (hl : (l.length : Int) ≤ s) (hp : ∀ q, q ∈ l → 1 ≤ q.amount ∧ q.amount ≤ s ∧ Pm n q.arcs) (hg : GainOk gain) (hgl : gain.length = n) :
    forC (weirtop_TopTable_B3 gain l) l.length 0 0 = some (.go (sumP (fun q => tot (fun i => q.amount * Wg gain i (q.arcs.getD i 0).toNat) n) l)) := by
  have hterm : ∀ q, q ∈ l → ∀ i, i < n → -6000000 ≤ q.amount * Wg gain i (q.arcs.getD i 0).toNat ∧ q.amount * Wg gain i (q.arcs.getD i 0).toNat ≤ 6000000 := fun q hq i hi => by
    have h1 := hp q hq
    have h2 := hg.bnd i (q.arcs.getD i 0).toNat
    have := mul_rng (a := q.amount) (b := Wg gain i (q.arcs.getD i 0).toNat) (A := 6000) (B := 1000) (by omega) (by omega) h2.1 h2.2
    omega
  have hrow : ∀ q, q ∈ l → ∀ m, m ≤ n → -36000000 ≤ tot (fun i => q.amount * Wg gain i (q.arcs.getD i 0).toNat) m ∧ tot (fun i => q.amount * Wg gain i (q.arcs.getD i 0).toNat) m ≤ 36000000 := fun q hq m hm => by
    have := tot_rng (f := fun i => q.amount * Wg gain i (q.arcs.getD i 0).toNat) (B := 6000000) (m := m) fun k hk => hterm q hq k (by omega)
    omega
  obtain ⟨q, e, h⟩ := forC_or (f := weirtop_TopTable_B3 gain l) (fun j x => x = tot (fun a => tot (fun i => (l.getD a El.d).amount * Wg gain i ((l.getD a El.d).arcs.getD i 0).toNat) n) j) (fun q => q = .go (sumP (fun q => tot (fun i => q.amount * Wg gain i (q.arcs.getD i 0).toNat) n) l)) (n := l.length) (k := 0) (s := (0 : Int)) rfl (fun j x _ hj hx => by
    have hj' : j < l.length := by omega
    have hx : x = tot (fun a => tot (fun i => (l.getD a El.d).amount * Wg gain i ((l.getD a El.d).arcs.getD i 0).toNat) n) j := hx
    have hmem := mem_getD (d := El.d) hj'
    have hq := hp _ hmem
    have hpl := hq.2.2.len
    have hxb := tot_rng (f := fun a => tot (fun i => (l.getD a El.d).amount * Wg gain i ((l.getD a El.d).arcs.getD i 0).toNat) n) (B := 36000000) (m := j) fun a ha => hrow _ (mem_getD (d := El.d) (show a < l.length by omega)) n (Nat.le_refl _)
    rw [← hx] at hxb
    obtain ⟨q2, e2, h2⟩ := forC_or (f := weirtop_TopTable_B4 gain l j) (fun m y => y = x + tot (fun i => (l.getD j El.d).amount * Wg gain i ((l.getD j El.d).arcs.getD i 0).toNat) m) (fun q => q = .go (x + tot (fun i => (l.getD j El.d).amount * Wg gain i ((l.getD j El.d).arcs.getD i 0).toNat) n)) (n := (l.getD j El.d).arcs.length) (k := 0) (s := x) (Int.add_zero _).symm (fun m y _ hm hy => by
      have hm' : m < n := by omega
      have hy : y = x + tot (fun i => (l.getD j El.d).amount * Wg gain i ((l.getD j El.d).arcs.getD i 0).toNat) m := hy
      have hv := hq.2.2.v m hm'
      have h3 := hterm _ hmem m hm'
      have h4 := hrow _ hmem m (by omega)
      have hgr := hg.row m (by omega)
      unfold weirtop_TopTable_B4
      have e0 : (l.getD j El.d).amount * (gain.getD m []).getD ((l.getD j El.d).arcs.getD m 0).toNat 0 = (l.getD j El.d).amount * Wg gain m ((l.getD j El.d).arcs.getD m 0).toNat := rfl
      rw [if_neg (by omega), if_neg (by omega), if_neg (by omega), ck_some (by omega), ck_some (by omega), e0, ck_some (by unfold InI; omega), ck_some (by unfold InI; omega)]
      refine .inl ⟨_, rfl, ?_⟩
      have e4 : tot (fun i => (l.getD j El.d).amount * Wg gain i ((l.getD j El.d).arcs.getD i 0).toNat) (m + 1) = tot (fun i => (l.getD j El.d).amount * Wg gain i ((l.getD j El.d).arcs.getD i 0).toNat) m + (l.getD j El.d).amount * Wg gain m ((l.getD j El.d).arcs.getD m 0).toNat := rfl
      rw [e4, hy]
      omega) (fun y hy => by rw [hy, Nat.zero_add, hpl])
    unfold weirtop_TopTable_B3
    rw [e2, h2, bind_some']
    dsimp only
    refine .inl ⟨_, rfl, ?_⟩
    rw [hx]; rfl) (fun x hx => by rw [hx, Nat.zero_add]; rfl)
  rw [e, h]
/-- the parts are all -/
theorem all_parts {l : List Piece} (hp : ∀ q, q ∈ l → Pm n q.arcs) (ht : ∀ i k, i < n → k < n → Mt t i k = sumP (termP i k) l) : tot (fun i => tot (fun k => Mt t i k * Wg gain i k) n) n = sumP (fun q => tot (fun i => q.amount * Wg gain i (q.arcs.getD i 0).toNat) n) l := by
  unfold sumP
  rw [tot_swap (fun j i => (l.getD j El.d).amount * Wg gain i ((l.getD j El.d).arcs.getD i 0).toNat)]
  refine tot_congr fun i hi => ?_
  have e1 : tot (fun k => Mt t i k * Wg gain i k) n = tot (fun k => tot (fun j => Wg gain i k * termP i k (l.getD j El.d)) l.length) n := tot_congr fun k hk => by
    rw [ht i k hi hk, tot_mul (Wg gain i k) (fun j => termP i k (l.getD j El.d)), Int.mul_comm]
    rfl
  rw [e1, tot_swap (fun k j => Wg gain i k * termP i k (l.getD j El.d))]
  refine tot_congr fun j hj => ?_
  have hv := (hp _ (mem_getD (d := El.d) hj)).v i hi
  rw [tot_single (f := fun k => Wg gain i k * termP i k (l.getD j El.d)) (k := ((l.getD j El.d).arcs.getD i 0).toNat) (by omega) fun k _ hne => by
    unfold termP
    rw [if_neg (by omega), Int.mul_zero]]
  unfold termP
  rw [if_pos (by omega), Int.mul_comm]
end
theorem TopTable_true (t gain : List (List Int)) : weirtop_TopTable_F t gain = some true := by
  unfold weirtop_TopTable_F
  rw [worksA_ok, bind_some', if_neg (by decide)]
  obtain ⟨r7, r9, r10, eb, hbest⟩ : ∃ r7 r9 r10, assign_Best_F gain = some (r7, r9, r10) ∧ (r10 = 0 → GainOk gain ∧ ∃ p, BestP gain p r9) := by
    by_cases h : GainOk gain
    · obtain ⟨p, s, hb, hp⟩ := assign_best h
      exact ⟨_, _, _, hb, fun _ => ⟨h, p, hp⟩⟩
    · obtain ⟨e, he, hb⟩ := best_bad h
      exact ⟨_, _, _, hb, fun z => absurd z he⟩
  rcases check_dbl t with ⟨s, h6, hD, s0, s1, sz, hb, hc⟩ | ⟨e, he, hc⟩
  · obtain ⟨l, es, hp, ht, hsum, hlen⟩ := split_ok h6 hD s0 s1 sz hb hc
    rw [hc, bind_some']
    dsimp only
    rw [eb, bind_some']
    dsimp only
    rw [es, bind_some']
    dsimp only
    rw [if_neg (by decide)]
    by_cases c1 : r10 = 0
    · obtain ⟨hg, p, hP⟩ := hbest c1
      rw [if_neg (fun z => z c1)]
      by_cases c2 : ((t.length : Nat) : Int) = ((gain.length : Nat) : Int)
      · have hgl : gain.length = t.length := by omega
        rw [if_neg (fun z => z c2), all_ok h6 rfl hD.row (fun i k hi hk => ⟨hD.b i k hi hk, hb i k hi hk⟩) hg hgl, bind_some', parts_ok h6 s1 hlen hp hg hgl, bind_some']
        dsimp only
        have heq := all_parts (t := t) (gain := gain) (n := t.length) (l := l) (fun q hq => (hp q hq).2.2) ht
        -- the best is not beyond
        have hr9 : -6000 ≤ r9 ∧ r9 ≤ 6000 := by
          rw [hP.sum]
          have := tot_rng (f := fun i => Wg gain i (p.getD i 0)) (B := 1000) (m := gain.length) fun i _ => hg.bnd i (p.getD i 0)
          omega
        have hmul := mul_rng (a := s) (b := r9) (A := 6000) (B := 6000) s0 s1 hr9.1 hr9.2
        rw [if_pos rfl, if_pos heq, ck_some (inI_small (by omega) (by omega))]
        refine congrArg some (decide_eq_true ?_)
        rw [heq]
        have h1 : sumP (fun q => tot (fun i => q.amount * Wg gain i (q.arcs.getD i 0).toNat) t.length) l ≤ tot (fun j => r9 * (l.getD j El.d).amount) l.length := tot_le fun j hj => by
          have hq := hp _ (mem_getD (d := El.d) hj)
          have hI := hq.2.2.inj
          rw [← hgl] at hI
          have h2 := hP.le hI
          rw [hgl] at h2
          show tot (fun i => (l.getD j El.d).amount * Wg gain i ((l.getD j El.d).arcs.getD i 0).toNat) t.length ≤ r9 * (l.getD j El.d).amount
          rw [tot_mul (l.getD j El.d).amount (fun i => Wg gain i ((l.getD j El.d).arcs.getD i 0).toNat), Int.mul_comm r9]
          exact Int.mul_le_mul_of_nonneg_left h2 (by omega)
        rw [tot_mul r9 (fun j => (l.getD j El.d).amount)] at h1
        have h3 : tot (fun j => (l.getD j El.d).amount) l.length = s := hsum
        rw [h3, Int.mul_comm] at h1
        exact h1
      · rw [if_pos c2, if_pos rfl]
    · rw [if_pos c1, if_pos rfl]
  · rw [hc, bind_some']
    dsimp only
    rw [eb, bind_some']
    dsimp only
    rw [split_bad he hc, bind_some']
    dsimp only
    rw [if_pos he, if_neg he]
    rfl
end Go.Proofs.Ytmdpjhclgofbfaa
