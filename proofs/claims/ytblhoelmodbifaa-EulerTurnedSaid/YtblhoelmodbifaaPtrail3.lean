/- Package euler: Trail is a trail. -/
import Derived.Test.YtblhoelmodbifaaPtrail2
namespace Go.Proofs.Ytblhoelmodbifaa
open Go Go.Proofs.Ytblhoelmodbifaa.Sx
set_option linter.unusedVariables false
set_option linter.unusedSimpArgs false
theorem cnt_ex {S : Nat → Bool} : ∀ {n : Nat}, 1 ≤ cnt S n → ∃ x, x < n ∧ S x = true
  | 0, h => absurd h (by simp [cnt])
  | n + 1, h => by
    cases hS : S n with
    | true => exact ⟨n, by omega, hS⟩
    | false =>
      simp only [cnt] at h
      rw [hS] at h
      obtain ⟨x, hx, e⟩ := cnt_ex (n := n) (by simpa using h)
      exact ⟨x, by omega, e⟩
theorem cnt_uniq {S : Nat → Bool} : ∀ {n x y : Nat}, cnt S n ≤ 1 → x < n → y < n → S x = true → S y = true → x = y
  | 0, _, _, _, h, _, _, _ => absurd h (by omega)
  | n + 1, x, y, h, hx, hy, ex, ey => by
    simp only [cnt] at h
    cases hS : S n with
    | true =>
      rw [hS] at h
      have h0 : cnt S n = 0 := by simp at h; omega
      have no : ∀ z, z < n → S z = true → False := fun z hz e => by have := cnt_pos hz e; omega
      have e1 : x = n := Classical.byContradiction fun c => no x (by omega) ex
      have e2 : y = n := Classical.byContradiction fun c => no y (by omega) ey
      omega
    | false =>
      rw [hS] at h
      have e1 : x ≠ n := fun c => by rw [c, hS] at ex; exact Bool.noConfusion ex
      have e2 : y ≠ n := fun c => by rw [c, hS] at ey; exact Bool.noConfusion ey
      exact cnt_uniq (n := n) (by simpa using h) (by omega) (by omega) ex ey
structure TrailR (g : Graph) (kind : Int) (l : List Int) (st e0 : Int) : Prop where
  rg : ∀ i, i < l.length → 0 ≤ l.getD i 0 ∧ l.getD i 0 < g.as.length
  first : 0 < l.length → fF g (l.getD 0 0).toNat = st
  last : 0 < l.length → tT g (l.getD (l.length - 1) 0).toNat = e0
  ch : ∀ i, i + 1 < l.length → tT g (l.getD i 0).toNat = fF g (l.getD (i + 1) 0).toNat
  bal : ∀ x, exc g.as x = (if x = st then 1 else 0) - (if x = e0 then 1 else 0)
  round : kind = 2 ↔ st = e0
  fin : ∃ used : List Bool, un g used + l.length = g.as.length ∧ (∀ x, uo g used x = ui g used x) ∧ (∀ j, j < g.as.length → fF g j = st → used.getD j false = true) ∧ (∀ i, i < l.length → ∀ j, j < g.as.length → fF g j = tT g (l.getD i 0).toNat → used.getD j false = true) ∧ ∀ j : Nat, j < g.as.length → used.getD j false = true → ∃ i, i < l.length ∧ l.getD i 0 = (j : Int)
  start : (0 ≤ st ∧ st < g.n) ∧ ((∃ x : Int, 0 ≤ x ∧ x < g.n ∧ 0 < outs g.as x) → 0 < outs g.as st)
theorem ends_of_kind {g : Graph} (hg : Ok g) {p : List Int} (hk : kindOf g p ≠ 0) : ∃ st y e0, loopC (euler_Trail_B1 (kindOf g p) (nodes (outs g.as) g.n) (nodes (inns g.as) g.n)) 1000000 (0, g.n - 1) = some (.go (st, y)) ∧ (∀ x, exc g.as x = (if x = st then 1 else 0) - (if x = e0 then 1 else 0)) ∧ (kindOf g p = 2 ↔ st = e0) ∧ (0 ≤ st ∧ st < g.n) ∧ ((∃ x : Int, 0 ≤ x ∧ x < g.n ∧ 0 < outs g.as x) → 0 < outs g.as st) ∧ Near g.as g.n.toNat ∧ Conn g.as p := by
  have n0 := hg.n0
  obtain ⟨st, y, e, h⟩ := start_ok hg (kindOf g p)
  have hc : Near g.as g.n.toNat ∧ Conn g.as p := Classical.byContradiction fun z => hk (if_neg z)
  have hkk : kindOf g p = if cntD g.as 1 g.n.toNat = 0 then 2 else if cntD g.as 1 g.n.toNat = 1 then 1 else 0 := if_pos hc
  have hs := near_same hg hc.1
  have outI := fun x : Int => inns_le g.as x
  have outO := fun x : Int => outs_le g.as x
  by_cases c0 : cntD g.as 1 g.n.toNat = 0
  · rw [if_pos c0] at hkk
    have all : ∀ x, exc g.as x = 0 := fun x => by
      by_cases hx : 0 ≤ x ∧ x < g.n
      · have hn := hc.1 x.toNat (by omega)
        rw [Int.toNat_of_nonneg hx.1] at hn
        have a1 : exc g.as x ≠ 1 := fun z => by
          have := cnt_pos (S := fun x : Nat => decide (exc g.as (x : Int) = 1)) (n := g.n.toNat) (y := x.toNat) (by omega) (decide_eq_true (by rw [Int.toNat_of_nonneg hx.1]; exact z))
          unfold cntD at c0
          omega
        have a2 : exc g.as x ≠ -1 := fun z => by
          have := cnt_pos (S := fun x : Nat => decide (exc g.as (x : Int) = -1)) (n := g.n.toNat) (y := x.toNat) (by omega) (decide_eq_true (by rw [Int.toNat_of_nonneg hx.1]; exact z))
          unfold cntD at c0 hs
          omega
        omega
      · exact exc_out hg (by omega)
    refine ⟨st, y, st, e, fun x => by rw [all x]; omega, ⟨fun _ => rfl, fun _ => hkk⟩, ?_, ?_, hc⟩
    · rcases h with ⟨a, _⟩ | ⟨a, b, _⟩ <;> omega
    · rintro ⟨x, x0, x1, hx⟩
      rcases h with ⟨_, b⟩ | ⟨_, _, b | b⟩
      · exact absurd (Or.inl ⟨hkk, hx⟩) (b x x0 x1)
      · exact b.2
      · have := outI st; omega
  · rw [if_neg c0] at hkk
    by_cases c1 : cntD g.as 1 g.n.toNat = 1
    · rw [if_pos c1] at hkk
      have hst : (0 ≤ st ∧ st < g.n) ∧ exc g.as st = 1 := by
        rcases h with ⟨_, b⟩ | ⟨a1, a2, b | b⟩
        · exfalso
          obtain ⟨x, hx, ex⟩ := cnt_ex (S := fun x : Nat => decide (exc g.as (x : Int) = 1)) (n := g.n.toNat) (by unfold cntD at c1; omega)
          have ex' := of_decide_eq_true ex
          unfold exc at ex'
          exact b x (by omega) (by omega) (.inr (by omega))
        · rw [hkk] at b; exact absurd b.1 (by decide)
        · have hn := hc.1 st.toNat (by omega)
          rw [Int.toNat_of_nonneg a1] at hn
          refine ⟨⟨a1, a2⟩, ?_⟩
          unfold exc at hn ⊢
          omega
      obtain ⟨z, hz, ez⟩ := cnt_ex (S := fun x : Nat => decide (exc g.as (x : Int) = -1)) (n := g.n.toNat) (by unfold cntD at c1 hs; omega)
      have ez' : exc g.as (z : Int) = -1 := of_decide_eq_true ez
      have hne : st ≠ (z : Int) := fun w => by
        have := hst.2
        rw [w] at this
        omega
      refine ⟨st, y, (z : Int), e, fun x => ?_, ⟨fun w => by rw [hkk] at w; exact absurd w (by decide), fun w => absurd w hne⟩, hst.1, fun _ => ?_, hc⟩
      · by_cases hx : 0 ≤ x ∧ x < g.n
        · have hn := hc.1 x.toNat (by omega)
          rw [Int.toNat_of_nonneg hx.1] at hn
          by_cases x1 : x = st
          · rw [if_pos x1, if_neg (by omega), x1]; exact hst.2
          · by_cases x2 : x = (z : Int)
            · rw [if_neg x1, if_pos x2, x2]; exact ez'
            · rw [if_neg x1, if_neg x2]
              have a1 : exc g.as x ≠ 1 := fun w => by
                have := cnt_uniq (S := fun x : Nat => decide (exc g.as (x : Int) = 1)) (n := g.n.toNat) (x := x.toNat) (y := st.toNat) (by unfold cntD at c1; omega) (by omega) (by omega) (decide_eq_true (by rw [Int.toNat_of_nonneg hx.1]; exact w)) (decide_eq_true (by rw [Int.toNat_of_nonneg hst.1.1]; exact hst.2))
                omega
              have a2 : exc g.as x ≠ -1 := fun w => by
                have := cnt_uniq (S := fun x : Nat => decide (exc g.as (x : Int) = -1)) (n := g.n.toNat) (x := x.toNat) (y := z) (by unfold cntD at c1 hs; omega) (by omega) (by omega) (decide_eq_true (by rw [Int.toNat_of_nonneg hx.1]; exact w)) ez
                omega
              omega
        · rw [exc_out hg (by omega), if_neg (by omega), if_neg (by omega)]; rfl
      · have a := hst.2
        have b := outI st
        unfold exc at a
        omega
    · rw [if_neg c1] at hkk
      exact absurd hkk hk
theorem trail_ok {g : Graph} (hg : Ok g) {p : List Int} (hcan : euler_Can_F g = some (kindOf g p, 0)) (hk : kindOf g p ≠ 0) : ∃ l st e0, euler_Trail_F g = some (l, 0) ∧ TrailR g (kindOf g p) l st e0 ∧ Conn g.as p := by
  have n0 := hg.n0; have n1 := hg.n1; have hl := hg.len
  obtain ⟨st, y, e0, e, hb, hr, hst, hstart, hN, hC⟩ := ends_of_kind hg hk
  obtain ⟨used, done, e2, hT, hfull⟩ := trail_loop hl (st := st) (e0 := e0) (fun x => by rw [uo_start, ui_start]; exact hb x)
  obtain ⟨hd, hbal⟩ := hT.stuck hfull
  have hw := hd.way
  have hcnt := hT.cnt
  have hun := un_range g used
  have hdl : done.length ≤ 60 := by simp only [List.length_nil] at hcnt; omega
  obtain ⟨r, er, r1, r2⟩ := reverse_ok (l := done) (by omega)
  refine ⟨r, st, e0, ?_, ⟨fun i hi => ?_, fun h => ?_, fun h => ?_, fun i hi => ?_, hb, hr, ⟨used, ?_, hbal, hfull, fun i hi j hj hf => ?_, fun j hj hu => ?_⟩, hst, hstart⟩, hC⟩
  · unfold euler_Trail_F
    rw [hcan, bind_some']
    dsimp only
    rw [if_neg (by decide), if_neg hk, degrees_ok hg, bind_some']
    dsimp only
    rw [ck_some (inI_small (by omega) (by omega)), e, bind_some']
    dsimp only
    have e2' : loopC (euler_Trail_B2 g) 1000000 (List.replicate (((g.as.length : Nat) : Int).toNat) false, [], [], st) = _ := e2
    rw [ck_some (by omega), e2', bind_some']
    dsimp only
    rw [er, bind_some', ck_some r1]
  · rw [r2 i (by omega)]; exact hw.rg _ (by omega)
  · rw [r2 0 (by omega), Nat.sub_zero]; exact hw.last (by omega)
  · rw [r2 _ (by omega), r1, Nat.sub_self]; exact hw.first (by omega)
  · rw [r2 i (by omega), r2 (i + 1) (by omega)]
    have := hw.ch (done.length - 1 - (i + 1)) (by omega)
    rw [show done.length - 1 - (i + 1) + 1 = done.length - 1 - i by omega] at this
    exact this
  · simp only [List.length_nil] at hcnt; omega
  · rw [r2 i (by omega)] at hf
    exact hT.full _ (mem_getD (by omega)) j hj hf
  · rcases hT.mem j hj hu with w | w
    · obtain ⟨i, hi, e⟩ := getD_of_mem (d := 0) w
      refine ⟨done.length - 1 - i, by omega, ?_⟩
      rw [r2 _ (by omega), show done.length - 1 - (done.length - 1 - i) = i by omega, e]
    · exact absurd w (by simp)
theorem trail_none {g : Graph} (h : ¬ ∃ p, Ok g ∧ euler_Can_F g = some (kindOf g p, 0) ∧ kindOf g p ≠ 0) : ∃ e, e ≠ 0 ∧ euler_Trail_F g = some ([], e) := by
  unfold euler_Trail_F
  by_cases hc : checkF g (-10000) = 0
  · have hg := (checkF_ok g _).1 hc
    obtain ⟨p, _, hP, e⟩ := can_ok hg
    have hk : kindOf g p = 0 := Classical.byContradiction fun z => h ⟨p, hg, e, z⟩
    rw [e, bind_some']
    dsimp only
    rw [if_neg (by decide), if_pos hk]
    exact ⟨5, by decide, rfl⟩
  · rw [can_bad hc, bind_some']
    dsimp only
    rw [if_pos hc]
    exact ⟨_, hc, rfl⟩
end Go.Proofs.Ytblhoelmodbifaa
