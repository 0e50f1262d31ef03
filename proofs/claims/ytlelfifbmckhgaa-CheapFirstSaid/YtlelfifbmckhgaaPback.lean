/- Package cheap: back finds a way over tight steps. -/
import Derived.Test.YtlelfifbmckhgaaPcheap
namespace Go.Proofs.Ytlelfifbmckhgaa
open Go Go.Proofs.Ytlelfifbmckhgaa.Sx
set_option linter.unusedVariables false
set_option linter.unusedSimpArgs false
/-- the arc of a step's number -/
def codeA (n : Net) (cost f : List Int) (k : Nat) : Arc := (leftN n cost f n.as.length).getD k El.d
def dec (k : Nat) : Step := ⟨((k / 2 : Nat) : Int), decide (k % 2 = 1)⟩
theorem codeA_step {n : Net} {cost f : List Int} {k : Nat} (hk : k < 2 * n.as.length) (hne : (codeA n cost f k).f ≠ (codeA n cost f k).t) : StepR n.as f (dec k) (codeA n cost f k).f (codeA n cost f k).t := by
  obtain ⟨g1, g2⟩ := leftN_get n cost f (j := n.as.length) (k := k / 2) (by omega)
  unfold codeA at hne ⊢
  rcases Nat.mod_two_eq_zero_or_one k with c | c
  · have e : 2 * (k / 2) = k := by omega
    rw [e] at g1
    rw [g1] at hne ⊢
    unfold leftX at hne ⊢
    by_cases q : f.getD (k / 2) 0 < (n.as.getD (k / 2) El.d).c
    · rw [if_pos q]
      have hd : dec k = ⟨((k / 2 : Nat) : Int), false⟩ := by unfold dec; rw [c]; rfl
      rw [hd]
      exact StepR.fwd (by omega) rfl rfl q
    · rw [if_neg q] at hne
      exact absurd rfl hne
  · have e : 2 * (k / 2) + 1 = k := by omega
    rw [e] at g2
    rw [g2] at hne ⊢
    unfold leftY at hne ⊢
    by_cases q : 0 < f.getD (k / 2) 0
    · rw [if_pos q]
      have hd : dec k = ⟨((k / 2 : Nat) : Int), true⟩ := by unfold dec; rw [c]; rfl
      rw [hd]
      exact StepR.bck (by omega) rfl rfl q
    · rw [if_neg q] at hne
      exact absurd rfl hne
/-- what a tight step says of its arc -/
theorem codeA_tight {n : Net} {cost f F : List Int} {k : Nat} (hk : k < 2 * n.as.length) (hne : (codeA n cost f k).f ≠ (codeA n cost f k).t) (he : F.getD (codeA n cost f k).t.toNat 0 = F.getD (codeA n cost f k).f.toNat 0 + (codeA n cost f k).c) :
    F.getD (n.as.getD (k / 2) El.d).t.toNat 0 = F.getD (n.as.getD (k / 2) El.d).f.toNat 0 + cost.getD (k / 2) 0 ∧ ((codeA n cost f k).f = (n.as.getD (k / 2) El.d).f ∧ (codeA n cost f k).t = (n.as.getD (k / 2) El.d).t ∨ (codeA n cost f k).f = (n.as.getD (k / 2) El.d).t ∧ (codeA n cost f k).t = (n.as.getD (k / 2) El.d).f) := by
  obtain ⟨g1, g2⟩ := leftN_get n cost f (j := n.as.length) (k := k / 2) (by omega)
  unfold codeA at hne he ⊢
  rcases Nat.mod_two_eq_zero_or_one k with c | c
  · have e : 2 * (k / 2) = k := by omega
    rw [e] at g1
    rw [g1] at hne he ⊢
    unfold leftX at hne he ⊢
    by_cases q : f.getD (k / 2) 0 < (n.as.getD (k / 2) El.d).c
    · rw [if_pos q] at he ⊢
      exact ⟨he, .inl ⟨rfl, rfl⟩⟩
    · rw [if_neg q] at hne
      exact absurd rfl hne
  · have e : 2 * (k / 2) + 1 = k := by omega
    rw [e] at g2
    rw [g2] at hne he ⊢
    unfold leftY at hne he ⊢
    by_cases q : 0 < f.getD (k / 2) 0
    · rw [if_pos q] at he ⊢
      dsimp only at he
      exact ⟨by omega, .inr ⟨rfl, rfl⟩⟩
    · rw [if_neg q] at hne
      exact absurd rfl hne
section
variable {n : Net} {cost f : List Int} (hc : CheapOk n cost) (hw : WIn n f) {F : List Int} {K : List Bool} (hA : Away ⟨n.n, leftN n cost f n.as.length⟩ n.s F K)
/-- a tight step to a node that is known -/
structure TightS (n : Net) (cost f F : List Int) (K : List Bool) (k : Nat) (y : Nat) : Prop where
  lt : k < 2 * n.as.length
  t : (codeA n cost f k).t = (y : Int)
  kn : K.getD y false = true
  kf : K.getD (codeA n cost f k).f.toNat false = true
  eq : F.getD y 0 = F.getD (codeA n cost f k).f.toNat 0 + (codeA n cost f k).c
/-- the state of the search -/
structure BQ (n : Net) (cost f F : List Int) (K : List Bool) (deep by' : Nat → Int) (todo : List Int) : Prop where
  s0 : deep n.s.toNat = 0
  node : ∀ x : Nat, x < 12 → 0 ≤ deep x → (x : Int) < n.n ∧ K.getD x false = true ∧ deep x < cnt (reach deep) 12 ∧ ((x : Int) = n.s ∨ ∃ k : Nat, by' x = (k : Int) ∧ TightS n cost f F K k x ∧ 0 ≤ deep (codeA n cost f k).f.toNat ∧ deep x = deep (codeA n cost f k).f.toNat + 1)
  todo : ∀ y, y ∈ todo → 0 ≤ y ∧ y < n.n ∧ 0 ≤ deep y.toNat
def ShutC (n : Net) (cost f F : List Int) (K : List Bool) (deep : Nat → Int) (x j : Nat) : Prop := ∀ k, k < j → (codeA n cost f k).f = (x : Int) → ∀ y, TightS n cost f F K k y → 0 ≤ deep y
theorem ShutC.upd {deep : Nat → Int} {x j y : Nat} {z : Int} (h : ShutC n cost f F K deep x j) (hz : 0 ≤ z) : ShutC n cost f F K (updF deep y z) x j := fun k hk e w hw => by
  have := h k hk e w hw
  unfold updF; split <;> omega
include hc in
theorem code_rg {k : Nat} (hk : k < 2 * n.as.length) : 0 ≤ (codeA n cost f k).f ∧ (codeA n cost f k).f < n.n ∧ 0 ≤ (codeA n cost f k).t ∧ (codeA n cost f k).t < n.n ∧ -10000 ≤ (codeA n cost f k).c ∧ (codeA n cost f k).c ≤ 10000 := by
  have hG := (left_ok (f := f) hc).arc _ (mem_getD (d := El.d) (k := k) (by dsimp only; rw [leftN_len]; exact hk))
  exact ⟨hG.f0, hG.f1, hG.t0, hG.t1, hG.c0, hG.c1⟩
include hc in
theorem BQ.add {deep by' : Nat → Int} {todo : List Int} (h : BQ n cost f F K deep by' todo) {k y : Nat} (hT : TightS n cost f F K k y) (hr : 0 ≤ deep (codeA n cost f k).f.toNat) (hy : deep y < 0) :
    BQ n cost f F K (updF deep y (deep (codeA n cost f k).f.toNat + 1)) (updF by' y (k : Int)) (todo ++ [(y : Int)]) ∧ cnt (reach deep) 12 < cnt (reach (updF deep y (deep (codeA n cost f k).f.toNat + 1))) 12 := by
  have n12 := hc.net.g.n1
  dsimp only at n12
  have hrg := code_rg (f := f) hc hT.lt
  have ht := hT.t
  have hne : ∀ z : Nat, 0 ≤ deep z → z ≠ y := fun z hz e => by rw [e] at hz; omega
  have hcn : cnt (reach deep) 12 < cnt (reach (updF deep y (deep (codeA n cost f k).f.toNat + 1))) 12 := by
    refine cnt_lt (y := y) (fun z hz hr => ?_) (by omega) (by simp [reach, updF]; omega) (by simp [reach]; omega)
    simp only [reach, decide_eq_true_eq] at hr ⊢
    rw [updF, if_neg (hne z hr)]; exact hr
  have dx := h.node (codeA n cost f k).f.toNat (by omega) hr
  refine ⟨⟨?_, fun z hz hrz => ?_, fun z hz => ?_⟩, hcn⟩
  · have := h.s0
    rw [updF, if_neg (hne _ (by omega))]; exact this
  · by_cases e : z = y
    · subst e
      have ez : updF deep z (deep (codeA n cost f k).f.toNat + 1) z = deep (codeA n cost f k).f.toNat + 1 := by rw [updF, if_pos rfl]
      have ef : updF deep z (deep (codeA n cost f k).f.toNat + 1) (codeA n cost f k).f.toNat = deep (codeA n cost f k).f.toNat := by rw [updF, if_neg (hne _ hr)]
      rw [ez]
      refine ⟨by omega, hT.kn, by omega, .inr ⟨k, by rw [updF, if_pos rfl], hT, by rw [ef]; exact hr, by rw [ef]⟩⟩
    · have ez : updF deep y (deep (codeA n cost f k).f.toNat + 1) z = deep z := by rw [updF, if_neg e]
      rw [ez] at hrz ⊢
      obtain ⟨a, a', b, c⟩ := h.node z hz hrz
      refine ⟨a, a', by omega, ?_⟩
      rcases c with c | ⟨k', c1, c2, c3, c4⟩
      · exact .inl c
      · refine .inr ⟨k', by rw [updF, if_neg e]; exact c1, c2, ?_, ?_⟩
        · rw [updF, if_neg (hne _ c3)]; exact c3
        · rw [updF, if_neg (hne _ c3)]; exact c4
  · rcases List.mem_append.1 hz with hz | hz
    · obtain ⟨h1, h2, h3⟩ := h.todo z hz
      exact ⟨h1, h2, by unfold updF; split <;> omega⟩
    · obtain rfl := List.mem_singleton.1 hz
      exact ⟨by omega, by omega, by simp [updF]; omega⟩
/-- the state within the loop over the steps -/
structure BMid (n : Net) (cost f F : List Int) (K : List Bool) (at' : Int) (j : Nat) (todo : List Int) (σ : (Nat → Int) × (Nat → Int) × List Int) : Prop where
  q : BQ n cost f F K σ.1 σ.2.1 σ.2.2
  pre : ∃ ext, σ.2.2 = todo ++ ext
  rest : ∀ x : Nat, x < 12 → 0 ≤ σ.1 x → (x : Int) ∉ σ.2.2 → ShutC n cost f F K σ.1 x (2 * n.as.length)
  done : ShutC n cost f F K σ.1 at'.toNat j
include hc hA in
theorem back_inner {at' : Int} {r : List Int} (hat : 0 ≤ at' ∧ at' < n.n) {j : Nat} (hj : j < 2 * n.as.length) {σ : (Nat → Int) × (Nat → Int) × List Int} (hm : BMid n cost f F K at' j (at' :: r) σ) (hl : σ.2.2.length ≤ 1000) (hr : 0 ≤ σ.1 at'.toNat) :
    ∃ σ', cheap_back_B3 ⟨n.n, leftN n cost f n.as.length⟩ F K f j σ = some σ' ∧ BMid n cost f F K at' (j + 1) (at' :: r) σ' ∧ meas σ'.1 σ'.2.2 ≤ meas σ.1 σ.2.2 ∧ 0 ≤ σ'.1 at'.toNat := by
  obtain ⟨deep, by', l⟩ := σ
  have n12 := hc.net.g.n1
  dsimp only at n12
  have hrg := code_rg (f := f) hc hj
  have l0 := hA.l0; have l1 := hA.l1
  dsimp only at l0 l1 hl hr
  obtain ⟨ext, hx⟩ := hm.pre
  have hx' : l = at' :: (r ++ ext) := hx
  have head : l.getD 0 0 = at' := by rw [hx']; rfl
  unfold cheap_back_B3
  dsimp only
  have hcode : (leftN n cost f n.as.length).getD j El.d = codeA n cost f j := rfl
  rw [ck_some (by rw [hx']; simp), head, hcode]
  have keep : (∀ y, (codeA n cost f j).f = at' → TightS n cost f F K j y → 0 ≤ deep y) → BMid n cost f F K at' (j + 1) (at' :: r) (deep, by', l) := fun h => ⟨hm.q, hm.pre, hm.rest, fun k hk e y hT => by
    by_cases ek : k = j
    · subst ek; exact h y (by omega) hT
    · exact hm.done k (by omega) e y hT⟩
  have tn : ∀ y, TightS n cost f F K j y → y = (codeA n cost f j).t.toNat := fun y hT => by have := hT.t; omega
  by_cases c1 : (codeA n cost f j).f = at'
  · rw [if_pos c1, ck_some (by omega)]
    by_cases c2 : deep (codeA n cost f j).t.toNat < 0
    · rw [if_pos c2, ck_some (by omega)]
      by_cases c3 : K.getD (codeA n cost f j).t.toNat false = true
      · have b1 := hA.lo (codeA n cost f j).f.toNat; have b2 := hA.hi (codeA n cost f j).f.toNat
        rw [if_pos c3, ck_some (by omega), ck_some (by omega), ck_some (inI_small (by omega) (by omega))]
        by_cases c4 : F.getD (codeA n cost f j).t.toNat 0 = F.getD (codeA n cost f j).f.toNat 0 + (codeA n cost f j).c
        · have hrd : 0 ≤ deep (codeA n cost f j).f.toNat := by rw [c1]; exact hr
          have hT : TightS n cost f F K j (codeA n cost f j).t.toNat := ⟨hj, by omega, c3, (hm.q.node _ (by omega) hrd).2.1, c4⟩
          obtain ⟨q', hcn⟩ := BQ.add hc hm.q hT hrd c2
          have nd := (hm.q.node _ (by omega) hrd).2.2.1
          have cl := cnt_le (reach deep) 12
          have cl2 := cnt_le (reach (updF deep (codeA n cost f j).t.toNat (deep (codeA n cost f j).f.toNat + 1))) 12
          dsimp only at nd q' hcn
          rw [if_pos c4, ck_some (by omega), ck_some (inI_small (by omega) (by omega)), ck_some (by omega)]
          have ety : (((codeA n cost f j).t.toNat : Nat) : Int) = (codeA n cost f j).t := by omega
          rw [ety] at q'
          refine ⟨_, rfl, ⟨q', ⟨ext ++ [(codeA n cost f j).t], by dsimp only; rw [hx']; simp⟩, fun x hx2 hr2 hm2 => ?_, fun k hk e y hT2 => ?_⟩, ?_, ?_⟩
          · dsimp only at hr2 hm2 ⊢
            have hx1 : (x : Int) ≠ (codeA n cost f j).t := fun e => hm2 (by simp [e])
            rw [updF, if_neg (by omega)] at hr2
            exact (hm.rest x hx2 hr2 fun h => hm2 (by simp [h])).upd (by omega)
          · dsimp only
            by_cases ek : k = j
            · subst ek
              rw [tn y hT2, updF, if_pos rfl]; omega
            · have := hm.done k (by omega) e y hT2
              dsimp only at this
              unfold updF; split <;> omega
          · simp only [meas, List.length_append, List.length_cons, List.length_nil]; omega
          · dsimp only
            unfold updF; split <;> omega
        · rw [if_neg c4]
          exact ⟨_, rfl, keep fun y _ hT => absurd (by have := hT.eq; rwa [tn y hT] at this) c4, Nat.le_refl _, hr⟩
      · rw [if_neg c3]
        exact ⟨_, rfl, keep fun y _ hT => absurd (by have := hT.kn; rwa [tn y hT] at this) c3, Nat.le_refl _, hr⟩
    · rw [if_neg c2]
      exact ⟨_, rfl, keep fun y _ hT => by rw [tn y hT]; omega, Nat.le_refl _, hr⟩
  · rw [if_neg c1]
    exact ⟨_, rfl, keep fun y e _ => absurd e c1, Nat.le_refl _, hr⟩
/-- ahead of each round -/
structure BOut (n : Net) (cost f F : List Int) (K : List Bool) (σ : (Nat → Int) × (Nat → Int) × List Int) : Prop where
  q : BQ n cost f F K σ.1 σ.2.1 σ.2.2
  rest : ∀ x : Nat, x < 12 → 0 ≤ σ.1 x → (x : Int) ∉ σ.2.2 → ShutC n cost f F K σ.1 x (2 * n.as.length)
  m : meas σ.1 σ.2.2 ≤ 12
include hc hA in
theorem back_search {σ : (Nat → Int) × (Nat → Int) × List Int} (h0 : BOut n cost f F K σ) : ∃ deep by', loopC (cheap_back_B2 ⟨n.n, leftN n cost f n.as.length⟩ F K f) 1000000 σ = some (.go (deep, by', [])) ∧ BOut n cost f F K (deep, by', []) := by
  obtain ⟨q, e, hq⟩ := loopC_or (f := cheap_back_B2 ⟨n.n, leftN n cost f n.as.length⟩ F K f) (BOut n cost f F K) (fun q => ∃ deep by', q = .go (deep, by', []) ∧ BOut n cost f F K (deep, by', [])) (fun σ => meas σ.1 σ.2.2) (fun σ h => by
    obtain ⟨deep, by', l⟩ := σ
    have hm := h.m
    dsimp only [meas] at hm
    unfold cheap_back_B2
    cases l with
    | nil =>
      right; left
      exact ⟨_, by dsimp only; rw [if_neg (by simp)], deep, by', rfl, h⟩
    | cons at' r =>
      left
      dsimp only
      rw [if_pos (by simp only [List.length_cons]; omega)]
      obtain ⟨a0, a1, a2⟩ := h.q.todo at' (by simp)
      have := hm
      simp only [List.length_cons] at hm
      obtain ⟨σ', e1, ⟨m1, m2, m3⟩⟩ := forN_inv (f := cheap_back_B3 ⟨n.n, leftN n cost f n.as.length⟩ F K f) (fun j σ => BMid n cost f F K at' j (at' :: r) σ ∧ meas σ.1 σ.2.2 ≤ meas deep (at' :: r) ∧ 0 ≤ σ.1 at'.toNat) (n := (leftN n cost f n.as.length).length) (k := 0) (s := (deep, by', at' :: r))
        ⟨⟨h.q, ⟨[], by simp⟩, h.rest, fun k hk => absurd hk (by omega)⟩, Nat.le_refl _, a2⟩ fun j σ _ hj ⟨i1, i2, i3⟩ => by
          rw [leftN_len] at hj
          obtain ⟨σ', q1, q2, q3, q4⟩ := back_inner hc hA (at' := at') ⟨a0, a1⟩ (by omega) i1 (by simp only [meas, List.length_cons] at i2; omega) i3
          exact ⟨σ', q1, q2, by omega, q4⟩
      rw [leftN_len, Nat.zero_add] at m1
      obtain ⟨deep2, by2, l2⟩ := σ'
      rw [e1, bind_some']
      dsimp only
      obtain ⟨ext, hx⟩ := m1.pre
      dsimp only at hx m2 m3
      have hx' : l2 = at' :: (r ++ ext) := hx
      subst hx'
      rw [ck_some (by simp), subl_tail]
      refine ⟨_, rfl, ⟨⟨m1.q.s0, m1.q.node, fun y hy => m1.q.todo y (List.mem_cons_of_mem _ hy)⟩, fun x hx hr hm => ?_, ?_⟩, ?_⟩
      · dsimp only at hr hm ⊢
        by_cases e : (x : Int) = at'
        · have := m1.done
          rw [show x = at'.toNat by omega]; exact this
        · exact m1.rest x hx hr (by simp at hm ⊢; exact ⟨e, hm⟩)
      · simp only [meas, List.length_cons] at m2 ⊢; omega
      · simp only [meas, List.length_cons] at m2 ⊢; omega) (n := 1000000) h0 (by have := h0.m; omega)
  obtain ⟨deep, by', rfl, h⟩ := hq
  exact ⟨deep, by', e, h⟩
include hc hA in
/-- all that is known is come to -/
theorem back_all {deep by' : Nat → Int} (h : BOut n cost f F K (deep, by', [])) {x w : Int} (hx : Cost (leftN n cost f n.as.length) n.s x w) : w = F.getD x.toNat 0 → 0 ≤ deep x.toNat := by
  have n12 := hc.net.g.n1
  dsimp only at n12
  induction hx with
  | nil =>
    intro _
    have := h.q.s0
    dsimp only at this
    omega
  | @snoc w a hcost ha ih =>
    intro e
    have z := hA.zero
    have l1 := hA.le hcost hA.ks
    have st := hA.stab a ha l1.1
    have eF : w = F.getD a.f.toNat 0 := by have := l1.2; have := st.2; omega
    have hd := ih eF
    obtain ⟨k, hk, hka⟩ := getD_of_mem (d := El.d) ha
    rw [leftN_len] at hk
    have hka' : codeA n cost f k = a := hka
    have hrg := code_rg (f := f) hc hk
    rw [hka'] at hrg
    exact h.rest a.f.toNat (by omega) hd (by simp) k hk (by rw [hka']; omega) a.t.toNat ⟨hk, by rw [hka']; omega, st.1, by rw [hka']; exact l1.1, by rw [hka']; omega⟩
/-- part of the way back -/
structure BPart (n : Net) (cost f F : List Int) (K : List Bool) (deep by' : Nat → Int) (nd : Nat → Int) (cs : List Nat) (room x : Int) : Prop where
  z : nd 0 = n.t
  e : nd cs.length = x
  st : ∀ i, i < cs.length → TightS n cost f F K (cs.getD i 0) (nd i).toNat ∧ (codeA n cost f (cs.getD i 0)).f = nd (i + 1) ∧ nd i ≠ nd (i + 1) ∧ room ≤ roomR n.as f (dec (cs.getD i 0))
  dp : ∀ i, i ≤ cs.length → 0 ≤ nd i ∧ nd i < n.n ∧ deep (nd i).toNat = deep n.t.toNat - i
  dx : 0 ≤ deep x.toNat
  pos : 1 ≤ room
  big : room ≤ 10000
theorem tmod_nat (k : Nat) : Int.tmod ((k : Nat) : Int) 2 = ((k % 2 : Nat) : Int) := rfl
theorem tdiv_nat (k : Nat) : Int.tdiv ((k : Nat) : Int) 2 = ((k / 2 : Nat) : Int) := rfl
include hc hw in
theorem back_path {deep by' : Nat → Int} (h : BOut n cost f F K (deep, by', [])) (hT : 0 ≤ deep n.t.toNat) :
    ∃ (cs : List Nat) (r : Int), loopC (cheap_back_B4 n ⟨n.n, leftN n cost f n.as.length⟩ f by') 1000000 ([], 10000, n.t) = some (.go (cs.map (fun (k : Nat) => (k : Int)), r, n.s)) ∧ Trail n f (cs.map dec) r ∧ ∀ i, i < cs.length → cs.getD i 0 < 2 * n.as.length ∧ ∃ y, TightS n cost f F K (cs.getD i 0) y ∧ (codeA n cost f (cs.getD i 0)).f ≠ (codeA n cost f (cs.getD i 0)).t := by
  have hn := hc.net
  have n12 := hn.g.n1; have t0 := hn.t0; have t1 := hn.t1; have s0 := hn.s0; have s1 := hn.s1
  dsimp only at n12
  have m30 := hc.m30
  have hlen := hw.len
  obtain ⟨q, e, hq⟩ := loopC_or (f := cheap_back_B4 n ⟨n.n, leftN n cost f n.as.length⟩ f by') (fun τ => ∃ (nd : Nat → Int) (cs : List Nat), τ.1 = cs.map (fun (k : Nat) => (k : Int)) ∧ BPart n cost f F K deep by' nd cs τ.2.1 τ.2.2) (fun q => ∃ (cs : List Nat) (r : Int) (nd : Nat → Int), q = .go (cs.map (fun (k : Nat) => (k : Int)), r, n.s) ∧ BPart n cost f F K deep by' nd cs r n.s) (fun τ => (deep τ.2.2.toNat).toNat) (fun τ ⟨nd, cs, e0, h1⟩ => by
    obtain ⟨l, room, x⟩ := τ
    dsimp only at e0 h1
    subst e0
    unfold cheap_back_B4
    dsimp only
    have hle := h1.dp cs.length (Nat.le_refl _)
    rw [h1.e] at hle
    by_cases hx : x = n.s
    · rw [if_neg (by simpa using hx)]
      subst hx
      exact .inr (.inl ⟨_, rfl, cs, room, nd, rfl, h1⟩)
    · rw [if_pos hx]
      have dx := h1.dx
      obtain ⟨_, _, dlt, hnode⟩ := h.q.node x.toNat (by omega) dx
      have cl := cnt_le (reach deep) 12
      dsimp only at hnode dlt
      rcases hnode with c | ⟨k, b1, b2, b3, b4⟩
      · exfalso; omega
      have hk := b2.lt
      have hrg := code_rg (f := f) hc hk
      have ht := b2.t
      have hne : (codeA n cost f k).f ≠ (codeA n cost f k).t := fun z => by
        rw [z, ht, Int.toNat_natCast] at b4
        omega
      have hS := codeA_step hk hne
      have hroom := hS.room hw
      have hcsl : cs.length ≤ 1000 := by
        have := (h1.dp cs.length (Nat.le_refl _)).2.2
        rw [h1.e] at this
        obtain ⟨_, _, dlt2, _⟩ := h.q.node n.t.toNat (by omega) hT
        dsimp only at dlt2
        omega
      have hcode : (leftN n cost f n.as.length).getD k El.d = codeA n cost f k := rfl
      have part : BPart n cost f F K deep by' (fun i => if i ≤ cs.length then nd i else (codeA n cost f k).f) (cs ++ [k]) (min room (roomR n.as f (dec k))) (codeA n cost f k).f := by
        have hp := h1.pos; have hb := h1.big
        refine ⟨?_, ?_, fun i hi => ?_, fun i hi => ?_, b3, by omega, by omega⟩
        · rw [if_pos (Nat.zero_le _)]; exact h1.z
        · rw [if_neg (by simp)]
        · simp only [List.length_append, List.length_cons, List.length_nil] at hi
          rw [getD_snoc]
          by_cases e : i < cs.length
          · rw [if_pos e, if_pos (by omega), if_pos (by omega)]
            obtain ⟨q1, q2, q3, q4⟩ := h1.st i e
            exact ⟨q1, q2, q3, by omega⟩
          · rw [if_neg e, if_pos (by omega), if_pos (by omega), if_neg (by omega), show i = cs.length by omega, h1.e]
            exact ⟨b2, rfl, fun z => hne (by rw [ht]; omega), by omega⟩
        · simp only [List.length_append, List.length_cons, List.length_nil] at hi
          by_cases e : i ≤ cs.length
          · rw [if_pos e]; exact h1.dp i e
          · rw [if_neg e]
            exact ⟨hrg.1, hrg.2.1, by omega⟩
      left
      rw [ck_some (by omega), ck_some (by simp; omega), b1, tmod_nat, tdiv_nat, Int.toNat_natCast, Int.toNat_natCast, hcode]
      have hll := leftN_len n cost f n.as.length
      unfold roomR dec at part hroom
      dsimp only at part hroom
      rw [Int.toNat_natCast] at part hroom
      rcases Nat.mod_two_eq_zero_or_one k with c | c
      · have d0 : ¬ (decide (k % 2 = 1) = true) := by rw [c]; decide
        rw [if_neg d0] at part hroom
        rw [c, if_pos (by decide), ck_some (inI_small (by omega) (by omega)), ck_some (by omega), ck_some (by omega), ck_some (inI_small (by omega) (by omega)), ck_some (by omega)]
        exact ⟨_, rfl, ⟨_, cs ++ [k], by simp, part⟩, by dsimp only; omega⟩
      · have d0 : decide (k % 2 = 1) = true := by rw [c]; decide
        rw [if_pos d0] at part hroom
        rw [c, if_neg (by decide), ck_some (inI_small (by omega) (by omega)), ck_some (by omega), ck_some (by omega)]
        exact ⟨_, rfl, ⟨_, cs ++ [k], by simp, part⟩, by dsimp only; omega⟩) (n := 1000000) (s := ([], 10000, n.t)) ⟨fun _ => n.t, [], rfl, rfl, rfl, fun i hi => absurd hi (by simp), fun i hi => by
      obtain rfl : i = 0 := by simpa using hi
      exact ⟨t0, t1, by omega⟩, hT, by dsimp only; omega, by dsimp only; omega⟩ (by
      obtain ⟨_, _, dlt2, _⟩ := h.q.node n.t.toNat (by omega) hT
      have cl := cnt_le (reach deep) 12
      dsimp only at dlt2 ⊢
      omega)
  obtain ⟨cs, r, nd, rfl, h1⟩ := hq
  have stp : ∀ i, i < cs.length → StepR n.as f (dec (cs.getD i 0)) (nd (i + 1)) (nd i) := fun i hi => by
    obtain ⟨q1, q2, q3, q4⟩ := h1.st i hi
    have := (h1.dp i (by omega)).1
    have ht := q1.t
    have := codeA_step q1.lt (fun z => q3 (by rw [← q2, z]; omega))
    rw [q2, show (codeA n cost f (cs.getD i 0)).t = nd i by omega] at this
    exact this
  have gm : ∀ i, i < cs.length → (cs.map dec).getD i El.d = dec (cs.getD i 0) := fun i hi => by
    simp [List.getD_eq_getElem?_getD, hi]
  have same : ∀ {a b : Nat}, a ≤ cs.length → b ≤ cs.length → nd a = nd b → a = b := fun {a b} h2 h3 he => by
    have t1 := (h1.dp a h2).2.2
    have t2 := (h1.dp b h3).2.2
    rw [he] at t1
    omega
  refine ⟨cs, r, e, ⟨by have := h1.pos; omega, h1.big, ⟨nd, h1.z, by rw [List.length_map]; exact h1.e, fun i hi => ?_⟩, fun i hi => ?_, fun i j hij hj ha => ?_⟩, fun i hi => ?_⟩
  · rw [List.length_map] at hi
    rw [gm i hi]
    exact stp i hi
  · rw [List.length_map] at hi
    rw [gm i hi]
    exact (h1.st i hi).2.2.2
  · rw [List.length_map] at hj
    rw [gm i (by omega), gm j hj] at ha
    have s1 := stp i (by omega)
    have s2 := stp j hj
    generalize dec (cs.getD i 0) = A at *
    generalize dec (cs.getD j 0) = B at *
    cases b1 : A.back with
    | true =>
      cases b2 : B.back with
      | true =>
        have := same (a := i) (b := j) (by omega) (by omega) (by rw [← (s1.bw b1).2.1, ← (s2.bw b2).2.1, ha])
        omega
      | false =>
        have e1 := same (a := i + 1) (b := j) (by omega) (by omega) (by rw [← (s1.bw b1).1, ← (s2.fw b2).2.1, ha])
        have e2 := same (a := i) (b := j + 1) (by omega) (by omega) (by rw [← (s1.bw b1).2.1, ← (s2.fw b2).1, ha])
        omega
    | false =>
      cases b2 : B.back with
      | true =>
        have e1 := same (a := i + 1) (b := j) (by omega) (by omega) (by rw [← (s1.fw b1).1, ← (s2.bw b2).2.1, ha])
        have e2 := same (a := i) (b := j + 1) (by omega) (by omega) (by rw [← (s1.fw b1).2.1, ← (s2.bw b2).1, ha])
        omega
      | false =>
        have := same (a := i) (b := j) (by omega) (by omega) (by rw [← (s1.fw b1).2.1, ← (s2.fw b2).2.1, ha])
        omega
  · obtain ⟨q1, q2, q3, q4⟩ := h1.st i hi
    have := (h1.dp i (by omega)).1
    have ht := q1.t
    exact ⟨q1.lt, _, q1, fun z => q3 (by rw [← q2, z]; omega)⟩
theorem back_init : forN (cheap_back_B1) 12 0 (fun _ => (0 : Int) : Nat → Int) = some (fun x => if x < 12 then -1 else 0) := by
  obtain ⟨s, h1, h2⟩ := forN_inv (f := cheap_back_B1) (fun j s => ∀ x, s x = if x < j then -1 else 0) (n := 12) (k := 0) (s := (fun _ => (0 : Int))) (fun x => by simp) fun j s _ hj hs => ⟨_, rfl, fun x => by
    unfold updF
    by_cases e : x = j
    · subst e; rw [if_pos rfl, if_pos (by omega)]
    · rw [if_neg e, hs x]
      by_cases h : x < j
      · rw [if_pos h, if_pos (by omega)]
      · rw [if_neg h, if_neg (by omega)]⟩
  rw [h1]
  congr 1
  funext x
  exact h2 x
include hc hw hA in
theorem back_ok (hK : K.getD n.t.toNat false = true) :
    ∃ (cs : List Nat) (r : Int), cheap_back_F n ⟨n.n, leftN n cost f n.as.length⟩ F K f = some (cs.map (fun (k : Nat) => (k : Int)), r) ∧ Trail n f (cs.map dec) r ∧ ∀ i, i < cs.length → cs.getD i 0 < 2 * n.as.length ∧ ∃ y, TightS n cost f F K (cs.getD i 0) y ∧ (codeA n cost f (cs.getD i 0)).f ≠ (codeA n cost f (cs.getD i 0)).t := by
  have hn := hc.net
  have n12 := hn.g.n1; have s0 := hn.s0; have s1 := hn.s1; have t0 := hn.t0; have t1 := hn.t1
  dsimp only at n12
  unfold cheap_back_F
  rw [back_init, bind_some', ck_some (by omega)]
  have fr0 : ∀ x : Nat, updF (fun x => if x < 12 then -1 else 0) n.s.toNat 0 x = if x = n.s.toNat then 0 else if x < 12 then -1 else 0 := fun x => rfl
  have hO : BOut n cost f F K (updF (fun x => if x < 12 then -1 else 0) n.s.toNat 0, (fun _ => (0 : Int) : Nat → Int), ([n.s] : List Int)) := by
    refine ⟨⟨?_, fun x hx hr => ?_, fun y hy => ?_⟩, fun x hx hr hm => ?_, ?_⟩
    · dsimp only; rw [fr0, if_pos rfl]
    · dsimp only at hr ⊢
      rw [fr0] at hr ⊢
      by_cases e : x = n.s.toNat
      · rw [if_pos e]
        have : 1 ≤ cnt (reach (updF (fun x => if x < 12 then -1 else 0) n.s.toNat 0)) 12 := cnt_pos (y := n.s.toNat) (by omega) (by simp only [reach]; rw [fr0, if_pos rfl]; decide)
        exact ⟨by omega, by rw [e]; exact hA.ks, by omega, .inl (by omega)⟩
      · rw [if_neg e, if_pos hx] at hr; omega
    · obtain rfl := List.mem_singleton.1 hy
      exact ⟨s0, s1, by dsimp only; rw [fr0, if_pos rfl]; omega⟩
    · dsimp only at hr hm
      rw [fr0] at hr
      by_cases e : x = n.s.toNat
      · exact absurd (List.mem_singleton.2 (by omega)) hm
      · rw [if_neg e, if_pos hx] at hr; omega
    · have : 1 ≤ cnt (reach (updF (fun x => if x < 12 then -1 else 0) n.s.toNat 0)) 12 := cnt_pos (y := n.s.toNat) (by omega) (by simp only [reach]; rw [fr0, if_pos rfl]; decide)
      simp only [meas, List.length_cons, List.length_nil]; omega
  obtain ⟨deep, by', e, hB⟩ := back_search hc hA hO
  rw [e, bind_some']
  dsimp only
  have hd := back_all hc hA hB (hA.way n.t t0 t1 hK) rfl
  obtain ⟨cs, r, e2, hTr, hcs⟩ := back_path hc hw hB hd
  rw [e2, bind_some']
  exact ⟨cs, r, rfl, hTr, hcs⟩
end
end Go.Proofs.Ytlelfifbmckhgaa
