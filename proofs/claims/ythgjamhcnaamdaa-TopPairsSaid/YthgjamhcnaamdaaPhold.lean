/- Package match: Hold tells who holds one of each pair. -/
import Derived.Test.YthgjamhcnaamdaaPkuhn
import Derived.Test.YthgjamhcnaamdaaPones
namespace Go.Proofs.Ythgjamhcnaamdaa
open Go Go.Proofs.Ythgjamhcnaamdaa.Sx
set_option linter.unusedVariables false
set_option linter.unusedSimpArgs false
theorem or_rng (a b : Int) : 0 ≤ bitsOf .or .u16 a b ∧ bitsOf .or .u16 a b < 65536 := u16_rng _
theorem andNot_rng (a b : Int) : 0 ≤ bitsOf .andNot .u16 a b ∧ bitsOf .andNot .u16 a b < 65536 := u16_rng _
theorem shl_nat (x : Nat) : IntKind.u16.wrap (1 * 2 ^ min x 16) = shl (x : Int) := by unfold shl; rw [Int.toNat_natCast]
theorem bit_nat (s : Int) (x : Nat) : bitsOf .and .u16 (Int.fdiv s (2 ^ min x 16)) 1 = bit s (x : Int) := by rw [← bit_fold, Int.toNat_natCast]
theorem bit_orS (s : Int) {x y : Nat} (hx : x < 16) (hy : y < 16) : bit (bitsOf .or .u16 s (shl (y : Int))) (x : Int) = 1 ↔ bit s (x : Int) = 1 ∨ x = y := by
  rw [bit_or s _ (by omega) (by omega), bit_shl (by omega) (by omega)]
  omega
theorem bit_andNotS (s : Int) {x y : Nat} (hx : x < 16) (hy : y < 16) : bit (bitsOf .andNot .u16 s (shl (y : Int))) (x : Int) = 1 ↔ bit s (x : Int) = 1 ∧ x ≠ y := by
  rw [bit_andNot s _ (by omega) (by omega), bit_shl (by omega) (by omega)]
  omega
theorem bit0 (x : Int) : bit 0 x = 0 := by
  unfold bit
  rw [and1, Int.zero_fdiv]; rfl
section
variable {m n : Int} {l : List Arc} {mate : List Int}
/-- who has nobody -/
theorem hold_free (hP : OkP m n l) (hM : MV n.toNat l mate) (s0 : Int) : ∃ s, forN (match_Hold_B1 l mate) mate.length 0 s0 = some s ∧ ∀ x : Nat, x < 16 → (bit s (x : Int) = 1 ↔ bit s0 (x : Int) = 1 ∧ ∀ y : Nat, y < n.toNat → ¬ (0 ≤ mate.getD y 0 ∧ par l mate y = (x : Int))) := by
  have hml := hM.len
  have hm1 := hP.m1
  obtain ⟨s, e, h⟩ := forN_inv (f := match_Hold_B1 l mate) (fun j s => ∀ x : Nat, x < 16 → (bit s (x : Int) = 1 ↔ bit s0 (x : Int) = 1 ∧ ∀ y : Nat, y < j → ¬ (0 ≤ mate.getD y 0 ∧ par l mate y = (x : Int)))) (n := mate.length) (k := 0) (s := s0) (fun x _ => ⟨fun h => ⟨h, fun y hy => absurd hy (by omega)⟩, fun h => h.1⟩) fun j s _ hj hI => by
    unfold match_Hold_B1
    by_cases c : 0 ≤ mate.getD j 0
    · rcases hM.v j (by omega) with q | ⟨q1, q2, q3⟩
      · omega
      have hr := par_rng hP hM (show j < n.toNat by omega) c
      obtain ⟨p, hp⟩ : ∃ p : Nat, par l mate j = (p : Int) := ⟨(par l mate j).toNat, by omega⟩
      have hp' : (l.getD (mate.getD j 0).toNat El.d).f = (p : Int) := hp
      rw [if_pos c, ck_some (by omega), hp', ck_some (by omega), Int.toNat_natCast, shl_nat]
      refine ⟨_, rfl, fun x hx => ?_⟩
      rw [bit_andNotS s hx (by omega), hI x hx]
      constructor
      · rintro ⟨⟨h1, h2⟩, h3⟩
        refine ⟨h1, fun y hy hq => ?_⟩
        by_cases z : y = j
        · subst z; rw [hp] at hq; omega
        · exact h2 y (by omega) hq
      · rintro ⟨h1, h2⟩
        exact ⟨⟨h1, fun y hy => h2 y (by omega)⟩, fun z => h2 j (by omega) ⟨c, by rw [hp, z]⟩⟩
    · rw [if_neg c]
      refine ⟨_, rfl, fun x hx => (hI x hx).trans ⟨fun h => ⟨h.1, fun y hy hq => ?_⟩, fun h => ⟨h.1, fun y hy => h.2 y (by omega)⟩⟩⟩
      by_cases z : y = j
      · subst z; exact c hq.1
      · exact h.2 y (by omega) hq
  rw [Nat.zero_add, hml] at h
  exact ⟨s, e, h⟩
theorem hold_second (hP : OkP m n l) (s t0 : Int) : ∃ t, forN (match_Hold_B3 l s) l.length 0 t0 = some t ∧ (∀ y : Nat, y < 16 → (bit t (y : Int) = 1 ↔ bit t0 (y : Int) = 1 ∨ ∃ a, a ∈ l ∧ a.t = (y : Int) ∧ bit s a.f = 1)) ∧ (0 ≤ t0 ∧ t0 < 65536 → 0 ≤ t ∧ t < 65536) := by
  have hn1 := hP.n1
  obtain ⟨t, e, h⟩ := forN_inv (f := match_Hold_B3 l s) (fun j t => (∀ y : Nat, y < 16 → (bit t (y : Int) = 1 ↔ bit t0 (y : Int) = 1 ∨ ∃ k, k < j ∧ (l.getD k El.d).t = (y : Int) ∧ bit s (l.getD k El.d).f = 1)) ∧ (0 ≤ t0 ∧ t0 < 65536 → 0 ≤ t ∧ t < 65536)) (n := l.length) (k := 0) (s := t0) ⟨fun y _ => ⟨fun h => .inl h, fun h => h.elim id fun ⟨k, hk, _⟩ => absurd hk (by omega)⟩, id⟩ fun j t _ hj ⟨hI, hR⟩ => by
    have ha := hP.arc _ (mem_getD (d := El.d) (show j < l.length by omega))
    obtain ⟨f, hf⟩ : ∃ f : Nat, (l.getD j El.d).f = (f : Int) := ⟨(l.getD j El.d).f.toNat, by omega⟩
    obtain ⟨p, hp⟩ : ∃ p : Nat, (l.getD j El.d).t = (p : Int) := ⟨(l.getD j El.d).t.toNat, by omega⟩
    unfold match_Hold_B3
    rw [hf, hp, ck_some (by omega), Int.toNat_natCast, Int.toNat_natCast, bit_nat, shl_nat]
    by_cases c : bit s (f : Int) = 1
    · rw [if_pos c, ck_some (by omega)]
      refine ⟨_, rfl, fun y hy => ?_, fun _ => or_rng _ _⟩
      rw [bit_orS t hy (by omega), hI y hy]
      constructor
      · rintro ((h | ⟨k, hk, h1, h2⟩) | h)
        · exact .inl h
        · exact .inr ⟨k, by omega, h1, h2⟩
        · exact .inr ⟨j, by omega, by rw [hp, h], by rw [hf]; exact c⟩
      · rintro (h | ⟨k, hk, h1, h2⟩)
        · exact .inl (.inl h)
        · by_cases z : k = j
          · subst z; rw [hp] at h1; exact .inr (by omega)
          · exact .inl (.inr ⟨k, by omega, h1, h2⟩)
    · rw [if_neg c]
      refine ⟨_, rfl, fun y hy => (hI y hy).trans ⟨fun h => h.imp id fun ⟨k, hk, h1, h2⟩ => ⟨k, by omega, h1, h2⟩, fun h => h.imp id fun ⟨k, hk, h1, h2⟩ => ?_⟩, hR⟩
      by_cases z : k = j
      · subst z; rw [hf] at h2; exact absurd h2 c
      · exact ⟨k, by omega, h1, h2⟩
  rw [Nat.zero_add] at h
  refine ⟨t, e, fun y hy => (h.1 y hy).trans ⟨fun q => q.imp id fun ⟨k, hk, h1, h2⟩ => ⟨_, mem_getD hk, h1, h2⟩, fun q => q.imp id fun ⟨a, ha, h1, h2⟩ => ?_⟩, h.2⟩
  obtain ⟨k, hk, e⟩ := getD_of_mem (d := El.d) ha
  exact ⟨k, hk, by rw [e]; exact h1, by rw [e]; exact h2⟩
theorem hold_first (hP : OkP m n l) (hM : MV n.toNat l mate) (t s0 : Int) : ∃ s, forN (match_Hold_B4 l mate t) mate.length 0 s0 = some s ∧ ∀ x : Nat, x < 16 → (bit s (x : Int) = 1 ↔ bit s0 (x : Int) = 1 ∨ ∃ y : Nat, y < n.toNat ∧ 0 ≤ mate.getD y 0 ∧ bit t (y : Int) = 1 ∧ par l mate y = (x : Int)) := by
  have hml := hM.len
  have hm1 := hP.m1
  obtain ⟨s, e, h⟩ := forN_inv (f := match_Hold_B4 l mate t) (fun j s => ∀ x : Nat, x < 16 → (bit s (x : Int) = 1 ↔ bit s0 (x : Int) = 1 ∨ ∃ y : Nat, y < j ∧ 0 ≤ mate.getD y 0 ∧ bit t (y : Int) = 1 ∧ par l mate y = (x : Int))) (n := mate.length) (k := 0) (s := s0) (fun x _ => ⟨fun h => .inl h, fun h => h.elim id fun ⟨y, hy, _⟩ => absurd hy (by omega)⟩) fun j s _ hj hI => by
    unfold match_Hold_B4
    by_cases c : 0 ≤ mate.getD j 0
    · rcases hM.v j (by omega) with q | ⟨q1, q2, q3⟩
      · omega
      have hr := par_rng hP hM (show j < n.toNat by omega) c
      obtain ⟨p, hp⟩ : ∃ p : Nat, par l mate j = (p : Int) := ⟨(par l mate j).toNat, by omega⟩
      have hp' : (l.getD (mate.getD j 0).toNat El.d).f = (p : Int) := hp
      rw [if_pos c, bit_nat]
      by_cases c2 : bit t (j : Int) = 1
      · rw [if_pos c2, ck_some (by omega), hp', ck_some (by omega), Int.toNat_natCast, shl_nat]
        refine ⟨_, rfl, fun x hx => ?_⟩
        rw [bit_orS s hx (by omega), hI x hx]
        constructor
        · rintro ((h | ⟨y, hy, h1⟩) | h)
          · exact .inl h
          · exact .inr ⟨y, by omega, h1⟩
          · exact .inr ⟨j, by omega, c, c2, by rw [hp, h]⟩
        · rintro (h | ⟨y, hy, h1, h2, h3⟩)
          · exact .inl (.inl h)
          · by_cases z : y = j
            · subst z; rw [hp] at h3; exact .inr (by omega)
            · exact .inl (.inr ⟨y, by omega, h1, h2, h3⟩)
      · rw [if_neg c2]
        refine ⟨_, rfl, fun x hx => (hI x hx).trans ⟨fun h => h.imp id fun ⟨y, hy, h1⟩ => ⟨y, by omega, h1⟩, fun h => h.imp id fun ⟨y, hy, h1, h2, h3⟩ => ?_⟩⟩
        by_cases z : y = j
        · subst z; exact absurd h2 c2
        · exact ⟨y, by omega, h1, h2, h3⟩
    · rw [if_neg c]
      refine ⟨_, rfl, fun x hx => (hI x hx).trans ⟨fun h => h.imp id fun ⟨y, hy, h1⟩ => ⟨y, by omega, h1⟩, fun h => h.imp id fun ⟨y, hy, h1, h2, h3⟩ => ?_⟩⟩
      by_cases z : y = j
      · subst z; exact absurd h1 c
      · exact ⟨y, by omega, h1, h2, h3⟩
  rw [Nat.zero_add, hml] at h
  exact ⟨s, e, h⟩
structure HStep (n : Nat) (l : List Arc) (mate : List Int) (σ σ' : Int × Int) : Prop where
  a : ∀ y : Nat, y < 16 → (bit σ'.2 (y : Int) = 1 ↔ bit σ.2 (y : Int) = 1 ∨ ∃ a, a ∈ l ∧ a.t = (y : Int) ∧ bit σ.1 a.f = 1)
  b : ∀ x : Nat, x < 16 → (bit σ'.1 (x : Int) = 1 ↔ bit σ.1 (x : Int) = 1 ∨ ∃ y : Nat, y < n ∧ 0 ≤ mate.getD y 0 ∧ bit σ'.2 (y : Int) = 1 ∧ par l mate y = (x : Int))
  r : 0 ≤ σ.2 ∧ σ.2 < 65536 → 0 ≤ σ'.2 ∧ σ'.2 < 65536
theorem hold_step (hP : OkP m n l) (hM : MV n.toNat l mate) (k : Nat) (σ : Int × Int) : ∃ σ', match_Hold_B2 l mate k σ = some σ' ∧ HStep n.toNat l mate σ σ' := by
  obtain ⟨x, y⟩ := σ
  obtain ⟨t, e1, h1, h2⟩ := hold_second hP x y
  obtain ⟨s, e2, h3⟩ := hold_first hP hM t x
  unfold match_Hold_B2
  dsimp only
  rw [e1, bind_some', e2, bind_some']
  exact ⟨_, rfl, h1, h3, h2⟩
def hst (l : List Arc) (mate : List Int) (s0 : Int × Int) : Nat → Int × Int
  | 0 => s0
  | r + 1 => (match_Hold_B2 l mate 0 (hst l mate s0 r)).getD (0, 0)
theorem hst_step (hP : OkP m n l) (hM : MV n.toNat l mate) (s0 : Int × Int) (r k : Nat) : match_Hold_B2 l mate k (hst l mate s0 r) = some (hst l mate s0 (r + 1)) ∧ HStep n.toNat l mate (hst l mate s0 r) (hst l mate s0 (r + 1)) := by
  obtain ⟨σ', e, h⟩ := hold_step hP hM 0 (hst l mate s0 r)
  have e2 : hst l mate s0 (r + 1) = σ' := by
    show (match_Hold_B2 l mate 0 (hst l mate s0 r)).getD (0, 0) = σ'
    rw [e]; rfl
  rw [e2]
  exact ⟨e, h⟩
theorem hst_run (hP : OkP m n l) (hM : MV n.toNat l mate) (s0 : Int × Int) (R : Nat) : forN (match_Hold_B2 l mate) R 0 s0 = some (hst l mate s0 R) := by
  obtain ⟨s, e, h⟩ := forN_inv (f := match_Hold_B2 l mate) (fun j s => s = hst l mate s0 j) (n := R) (k := 0) (s := s0) rfl fun j s _ hj hI => by
    subst hI
    exact ⟨_, (hst_step hP hM s0 j j).1, rfl⟩
  rw [e, h, Nat.zero_add]
/-- at rest -/
structure HRest (m n : Nat) (l : List Arc) (mate : List Int) (σ : Int × Int) : Prop where
  a : ∀ a, a ∈ l → bit σ.1 a.f = 1 → bit σ.2 a.t = 1
  b : ∀ y : Nat, y < n → 0 ≤ mate.getD y 0 → bit σ.2 (y : Int) = 1 → bit σ.1 (par l mate y) = 1
def hset (m : Nat) (σ : Int × Int) (z : Nat) : Bool := if z < m then decide (bit σ.1 (z : Int) = 1) else decide (bit σ.2 ((z - m : Nat) : Int) = 1)
theorem hold_rest (hP : OkP m n l) (hM : MV n.toNat l mate) (s0 : Int × Int) (h2 : ∀ y : Nat, y < 16 → bit s0.2 (y : Int) ≠ 1) (hlo : ∀ x : Nat, x < 16 → bit s0.1 (x : Int) = 1 → x < m.toNat) : HRest m.toNat n.toNat l mate (hst l mate s0 (m.toNat + n.toNat)) := by
  have hm1 := hP.m1; have hn1 := hP.n1; have hm0 := hP.m0; have hn0 := hP.n0
  by_cases hex : ∃ x : Nat, x < 16 ∧ bit s0.1 (x : Int) = 1
  · obtain ⟨x, hx, hx1⟩ := hex
    have rest := rounds_rest (n := m.toNat + n.toNat) (fun r z => hset m.toNat (hst l mate s0 r) z) (fun r z hz hs => by
      have hst := (hst_step hP hM s0 r 0).2
      unfold hset at hs ⊢
      by_cases c : z < m.toNat
      · rw [if_pos c] at hs ⊢
        exact decide_eq_true ((hst.b z (by omega)).2 (.inl (of_decide_eq_true hs)))
      · rw [if_neg c] at hs ⊢
        exact decide_eq_true ((hst.a (z - m.toNat) (by omega)).2 (.inl (of_decide_eq_true hs)))) (fun r r' he z hz => by
      have h1 := (hst_step hP hM s0 r 0).2
      have h2 := (hst_step hP hM s0 r' 0).2
      have k1 : ∀ x : Nat, x < m.toNat → (bit (hst l mate s0 r).1 (x : Int) = 1 ↔ bit (hst l mate s0 r').1 (x : Int) = 1) := fun x hx => by
        have := he x (by omega)
        unfold hset at this
        rw [if_pos hx, if_pos hx] at this
        exact decide_eq_decide.1 this
      have k2 : ∀ y : Nat, y < n.toNat → (bit (hst l mate s0 r).2 (y : Int) = 1 ↔ bit (hst l mate s0 r').2 (y : Int) = 1) := fun y hy => by
        have := he (m.toNat + y) (by omega)
        unfold hset at this
        rw [if_neg (by omega), if_neg (by omega), Nat.add_sub_cancel_left] at this
        exact decide_eq_decide.1 this
      have k3 : ∀ y : Nat, y < n.toNat → (bit (hst l mate s0 (r + 1)).2 (y : Int) = 1 ↔ bit (hst l mate s0 (r' + 1)).2 (y : Int) = 1) := fun y hy => by
        rw [h1.a y (by omega), h2.a y (by omega), k2 y hy]
        have : ∀ a, a ∈ l → (bit (hst l mate s0 r).1 a.f = 1 ↔ bit (hst l mate s0 r').1 a.f = 1) := fun a ha => by
          have har := hP.arc a ha
          have := k1 a.f.toNat (by omega)
          rwa [show ((a.f.toNat : Nat) : Int) = a.f by omega] at this
        exact ⟨fun q => q.imp id fun ⟨a, ha, q1, q2⟩ => ⟨a, ha, q1, (this a ha).1 q2⟩, fun q => q.imp id fun ⟨a, ha, q1, q2⟩ => ⟨a, ha, q1, (this a ha).2 q2⟩⟩
      unfold hset
      by_cases c : z < m.toNat
      · rw [if_pos c, if_pos c]
        refine decide_eq_decide.2 ?_
        rw [h1.b z (by omega), h2.b z (by omega), k1 z c]
        exact ⟨fun q => q.imp id fun ⟨y, hy, q1, q2, q3⟩ => ⟨y, hy, q1, (k3 y hy).1 q2, q3⟩, fun q => q.imp id fun ⟨y, hy, q1, q2, q3⟩ => ⟨y, hy, q1, (k3 y hy).2 q2, q3⟩⟩
      · rw [if_neg c, if_neg c]
        exact decide_eq_decide.2 (k3 _ (by omega))) ⟨x, by have := hlo x hx hx1; omega, by
      unfold hset
      rw [if_pos (hlo x hx hx1)]
      exact decide_eq_true hx1⟩
    have hs := (hst_step hP hM s0 (m.toNat + n.toNat) 0).2
    have k1 : ∀ x : Nat, x < m.toNat → bit (hst l mate s0 (m.toNat + n.toNat + 1)).1 (x : Int) = 1 → bit (hst l mate s0 (m.toNat + n.toNat)).1 (x : Int) = 1 := fun x hx h => by
      have := rest x (by omega)
      unfold hset at this
      rw [if_pos hx, if_pos hx] at this
      exact (decide_eq_decide.1 this).1 h
    have k2 : ∀ y : Nat, y < n.toNat → bit (hst l mate s0 (m.toNat + n.toNat + 1)).2 (y : Int) = 1 → bit (hst l mate s0 (m.toNat + n.toNat)).2 (y : Int) = 1 := fun y hy h => by
      have := rest (m.toNat + y) (by omega)
      unfold hset at this
      rw [if_neg (by omega), if_neg (by omega), Nat.add_sub_cancel_left] at this
      exact (decide_eq_decide.1 this).1 h
    refine ⟨fun a ha hf => ?_, fun y hy h0 h1 => ?_⟩
    · have har := hP.arc a ha
      have := k2 a.t.toNat (by omega) ((hs.a a.t.toNat (by omega)).2 (.inr ⟨a, ha, by omega, hf⟩))
      rwa [show ((a.t.toNat : Nat) : Int) = a.t by omega] at this
    · have hr := par_rng hP hM hy h0
      have := k1 (par l mate y).toNat (by omega) ((hs.b _ (by omega)).2 (.inr ⟨y, hy, h0, (hs.a y (by omega)).2 (.inl h1), by omega⟩))
      rwa [show (((par l mate y).toNat : Nat) : Int) = par l mate y by omega] at this
  · -- nobody is free
    have none' : ∀ r, (∀ x : Nat, x < 16 → bit (hst l mate s0 r).1 (x : Int) ≠ 1) ∧ ∀ y : Nat, y < 16 → bit (hst l mate s0 r).2 (y : Int) ≠ 1 := fun r => by
      induction r with
      | zero => exact ⟨fun x hx h => hex ⟨x, hx, h⟩, h2⟩
      | succ r ih =>
        have hs := (hst_step hP hM s0 r 0).2
        have q2 : ∀ y : Nat, y < 16 → bit (hst l mate s0 (r + 1)).2 (y : Int) ≠ 1 := fun y hy h => by
          rcases (hs.a y hy).1 h with q | ⟨a, ha, _, q⟩
          · exact ih.2 y hy q
          · have har := hP.arc a ha
            have := ih.1 a.f.toNat (by omega)
            rw [show ((a.f.toNat : Nat) : Int) = a.f by omega] at this
            exact this q
        refine ⟨fun x hx h => ?_, q2⟩
        rcases (hs.b x hx).1 h with q | ⟨y, hy, _, q, _⟩
        · exact ih.1 x hx q
        · exact q2 y (by omega) q
    obtain ⟨q1, q2⟩ := none' (m.toNat + n.toNat)
    refine ⟨fun a ha hf => ?_, fun y hy h0 h1 => absurd h1 (q2 y (by omega))⟩
    have har := hP.arc a ha
    have := q1 a.f.toNat (by omega)
    rw [show ((a.f.toNat : Nat) : Int) = a.f by omega] at this
    exact absurd hf this
end
theorem ones_tot {s : Int} {k : Nat} (hk : k ≤ 16) (h : ∀ x : Nat, k ≤ x → x < 16 → bit s (x : Int) = 0) : onesG s = tot (fun x => bit s (x : Int)) k := by
  unfold onesG
  have := tot_split (fun x => bit s (x : Int)) k (16 - k)
  rw [show k + (16 - k) = 16 by omega, tot_zero (f := fun i => bit s ((k + i : Nat) : Int)) fun i hi => h _ (by omega) (by omega)] at this
  omega
structure Held (m n : Int) (l : List Arc) (mate : List Int) (a b : Int) (s : Int) : Prop where
  cov : Cov l (fun x => if x < 16 then bit a (x : Int) else 0) (fun y => if y < 16 then bit b (y : Int) else 0)
  oa : onesG a = tot (fun x => bit a (x : Int)) m.toNat
  ob : onesG b = tot (fun x => bit b (x : Int)) n.toNat
  size : onesG a + onesG b = sizeM mate n.toNat
  ra : 0 ≤ a ∧ a < 65536
  rb : 0 ≤ b ∧ b < 65536
  ea : ∀ x : Nat, x < 16 → (bit a (x : Int) = 1 ↔ x < m.toNat ∧ bit s (x : Int) ≠ 1)
  rest : HRest m.toNat n.toNat l mate (s, b)
  dead : Dead n.toNat l mate (fun x => bit s x = 1) (fun y => y < n.toNat ∧ bit b (y : Int) = 1)
  free : ∀ x : Nat, x < m.toNat → cntM l mate n.toNat x = 0 → bit s (x : Int) = 1
theorem hold_ok {m n : Int} {l : List Arc} (hP : OkP m n l) {mate : List Int} (em : match_mates_F m n l = some mate) (hM : MInv m.toNat n.toNat l m.toNat mate) : ∃ a b s, match_Hold_F m n l = some (a, b, 0) ∧ Held m n l mate a b s := by
  have hm1 := hP.m1; have hn1 := hP.n1; have hm0 := hP.m0; have hn0 := hP.n0
  unfold match_Hold_F
  rcases checkP m n l with ⟨_, e⟩ | ⟨hb, _⟩
  · have hmk : IntKind.u16.wrap ((IntKind.u16.wrap (1 * 2 ^ min m.toNat 16)) - 1) = mask m := rfl
    obtain ⟨s0, e1, h1⟩ := hold_free hP hM.mv (mask m)
    rw [e, bind_some', if_neg (by decide), em, bind_some', ck_some hm0, hmk, e1, bind_some', ck_some (inI_small (by omega) (by omega)), show (m + n).toNat = m.toNat + n.toNat by omega, hst_run hP hM.mv (s0, 0) (m.toNat + n.toNat), bind_some']
    have hfree : ∀ x : Nat, x < 16 → (bit s0 (x : Int) = 1 ↔ x < m.toNat ∧ cntM l mate n.toNat x = 0) := fun x hx => by
      rw [h1 x hx, bit_mask (by omega) (by omega)]
      have : (∀ y : Nat, y < n.toNat → ¬ (0 ≤ mate.getD y 0 ∧ par l mate y = (x : Int))) ↔ cntM l mate n.toNat x = 0 := by
        constructor
        · exact fun h => tot_zero fun y hy => if_neg (h y hy)
        · intro h y hy hq
          have := tot_lt' (f := fun _ => 0) (g := fun y => if 0 ≤ mate.getD y 0 ∧ par l mate y = (x : Int) then (1 : Int) else 0) (n := n.toNat) (fun i _ => by split <;> omega) hy (by rw [if_pos hq]; omega)
          rw [tot_zero fun _ _ => rfl] at this
          unfold cntM at h
          omega
      rw [this]
      omega
    have hrest := hold_rest hP hM.mv (s0, 0) (fun y _ => by show bit 0 (y : Int) ≠ 1; rw [bit0]; decide) fun x hx h => ((hfree x hx).1 h).1
    -- what holds in all rounds
    obtain ⟨X, Y, hd, hX⟩ := hM.dead
    have inv : ∀ r, (∀ x : Nat, x < 16 → bit (hst l mate (s0, 0) r).1 (x : Int) = 1 → x < m.toNat ∧ X x) ∧ (∀ y : Nat, y < 16 → bit (hst l mate (s0, 0) r).2 (y : Int) = 1 → y < n.toNat ∧ Y y) ∧ (∀ x : Nat, x < 16 → bit s0 (x : Int) = 1 → bit (hst l mate (s0, 0) r).1 (x : Int) = 1) ∧ 0 ≤ (hst l mate (s0, 0) r).2 ∧ (hst l mate (s0, 0) r).2 < 65536 := fun r => by
      induction r with
      | zero => exact ⟨fun x hx h => by
          have q := (hfree x hx).1 h
          refine ⟨q.1, ?_⟩
          rcases hX x q.1 with z | z
          · omega
          · exact z.2, fun y _ h => by
          have : bit 0 (y : Int) = 1 := h
          rw [bit0] at this; omega, fun _ _ h => h, Int.le_refl _, by show (0 : Int) < 65536; decide⟩
      | succ r ih =>
        obtain ⟨i1, i2, i3, i4⟩ := ih
        have hs := (hst_step hP hM.mv (s0, 0) r 0).2
        have j2 : ∀ y : Nat, y < 16 → bit (hst l mate (s0, 0) (r + 1)).2 (y : Int) = 1 → y < n.toNat ∧ Y y := fun y hy h => by
          rcases (hs.a y hy).1 h with q | ⟨a, ha, q1, q2⟩
          · exact i2 y hy q
          · have har := hP.arc a ha
            have hx := i1 a.f.toNat (by omega) (by rw [show ((a.f.toNat : Nat) : Int) = a.f by omega]; exact q2)
            rw [show ((a.f.toNat : Nat) : Int) = a.f by omega] at hx
            have := hd.a a ha hx.2
            rw [show a.t.toNat = y by omega] at this
            exact ⟨by omega, this⟩
        refine ⟨fun x hx h => ?_, j2, fun x hx h => (hs.b x hx).2 (.inl (i3 x hx h)), hs.r i4⟩
        rcases (hs.b x hx).1 h with q | ⟨y, hy, q0, q1, q2⟩
        · exact i1 x hx q
        · have hY := j2 y (by omega) q1
          have hr := par_rng hP hM.mv hy q0
          have := (hd.b y hy hY.2).2
          rw [q2] at this hr
          exact ⟨by omega, this⟩
    obtain ⟨i1, i2, i3, i4⟩ := inv (m.toNat + n.toNat)
    generalize hst l mate (s0, 0) (m.toNat + n.toNat) = σ at hrest i1 i2 i3 i4
    obtain ⟨s, b⟩ := σ
    dsimp only at i1 i2 i3 i4
    have ea : ∀ x : Nat, x < 16 → (bit (bitsOf .andNot .u16 (mask m) s) (x : Int) = 1 ↔ x < m.toNat ∧ bit s (x : Int) ≠ 1) := fun x hx => by
      rw [bit_andNot _ _ (by omega) (by omega), bit_mask (by omega) (by omega)]
      exact ⟨fun q => ⟨by omega, q.2⟩, fun q => ⟨by omega, q.2⟩⟩
    have hdead : Dead n.toNat l mate (fun x => bit s x = 1) (fun y => y < n.toNat ∧ bit b (y : Int) = 1) := ⟨fun a ha h => by
      have har := hP.arc a ha
      exact ⟨by omega, by have := hrest.a a ha h; rwa [show ((a.t.toNat : Nat) : Int) = a.t by omega]⟩, fun y hy h => by
      have hY := i2 y (by omega) h.2
      have h0 := (hd.b y hy hY.2).1
      exact ⟨h0, hrest.b y hy h0 h.2⟩⟩
    have hfr : ∀ x : Nat, x < m.toNat → cntM l mate n.toNat x = 0 → bit s (x : Int) = 1 := fun x hx h => i3 x (by omega) ((hfree x (by omega)).2 ⟨hx, h⟩)
    have oa : onesG (bitsOf .andNot .u16 (mask m) s) = tot (fun x => bit (bitsOf .andNot .u16 (mask m) s) (x : Int)) m.toNat := ones_tot (by omega) fun x h1 h2 => by
      have := ea x h2
      have := bit01 (bitsOf .andNot .u16 (mask m) s) (x : Int)
      omega
    have ob : onesG b = tot (fun x => bit b (x : Int)) n.toNat := ones_tot (by omega) fun x h1 h2 => by
      have := i2 x h2
      have := bit01 b (x : Int)
      omega
    obtain ⟨A, hA⟩ := pick01 fun x => ¬ bit s (x : Int) = 1
    obtain ⟨B, hB⟩ := pick01 fun y => y < n.toNat ∧ bit b (y : Int) = 1
    obtain ⟨c1, c2⟩ := dead_cov hP hM hdead (fun x hx => by
      have h1 := hM.one x
      by_cases z : cntM l mate n.toNat x = 0
      · exact .inr (hfr x hx z)
      · exact .inl (by omega)) (A := A) (B := B) (fun x => by
      rcases hA x with q | q
      · exact .inl q
      · exact .inr ⟨q.1, Classical.byContradiction q.2⟩) hB
    have eA : tot A m.toNat = onesG (bitsOf .andNot .u16 (mask m) s) := by
      rw [oa]
      refine tot_congr fun x hx => ?_
      have h1 := ea x (by omega)
      have h2 := bit01 (bitsOf .andNot .u16 (mask m) s) (x : Int)
      rcases hA x with q | q <;> omega
    have eB : tot B n.toNat = onesG b := by
      rw [ob]
      refine tot_congr fun y hy => ?_
      have h2 := bit01 b (y : Int)
      rcases hB y with q | q <;> omega
    refine ⟨_, b, s, rfl, ⟨fun x => ?_, fun y => ?_, fun e he => ?_⟩, oa, ob, by omega, andNot_rng _ _, i4, ea, hrest, hdead, hfr⟩
    · split
      · exact bit01 _ _
      · exact .inl rfl
    · split
      · exact bit01 _ _
      · exact .inl rfl
    · have har := hP.arc e he
      rw [if_pos (by omega), if_pos (by omega), show ((e.f.toNat : Nat) : Int) = e.f by omega, show ((e.t.toNat : Nat) : Int) = e.t by omega]
      by_cases z : bit s e.f = 1
      · exact .inr (hrest.a e he z)
      · left
        have := (ea e.f.toNat (by omega)).2 ⟨by omega, by rw [show ((e.f.toNat : Nat) : Int) = e.f by omega]; exact z⟩
        rwa [show ((e.f.toNat : Nat) : Int) = e.f by omega] at this
  · exact absurd hP hb
theorem hold_bad {m n : Int} {l : List Arc} {e : Int} (he : e ≠ 0) (h : match_Check_F m n l = some e) : match_Hold_F m n l = some (0, 0, e) := by
  unfold match_Hold_F
  rw [h, bind_some', if_pos he]
end Go.Proofs.Ythgjamhcnaamdaa
