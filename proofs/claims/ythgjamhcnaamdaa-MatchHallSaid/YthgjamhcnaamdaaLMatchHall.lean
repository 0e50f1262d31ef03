/- MatchHall: the law's function answers true. -/
import Derived.Test.YthgjamhcnaamdaaPhold
import Derived.Test.YthgjamhcnaamdaaKMatchHall
namespace Go.Proofs.Ythgjamhcnaamdaa
open Go Go.Proofs.Ythgjamhcnaamdaa.Sx
set_option linter.unusedVariables false
set_option linter.unusedSimpArgs false
theorem matesL_ok : weirkeep_mates_F = some true := by kernel_rfl
theorem near_ok {m n : Int} {l : List Arc} (hP : OkP m n l) (s : Int) : ∃ u, weirkeep_MatchHall_c1_F s l = some (onesG u) ∧ ∀ y : Nat, y < 16 → (bit u (y : Int) = 1 ↔ ∃ a, a ∈ l ∧ a.t = (y : Int) ∧ bit s a.f = 1) := by
  have hm1 := hP.m1; have hn1 := hP.n1
  obtain ⟨u, e, h⟩ := forN_inv (f := weirkeep_MatchHall_c1_B1 s l) (fun j u => ∀ y : Nat, y < 16 → (bit u (y : Int) = 1 ↔ ∃ k, k < j ∧ (l.getD k El.d).t = (y : Int) ∧ bit s (l.getD k El.d).f = 1)) (n := l.length) (k := 0) (s := 0) (fun y _ => ⟨fun h => by rw [bit0] at h; omega, fun ⟨k, hk, _⟩ => absurd hk (by omega)⟩) fun j u _ hj hI => by
    have ha := hP.arc _ (mem_getD (d := El.d) (show j < l.length by omega))
    obtain ⟨f, hf⟩ : ∃ f : Nat, (l.getD j El.d).f = (f : Int) := ⟨(l.getD j El.d).f.toNat, by omega⟩
    obtain ⟨p, hp⟩ : ∃ p : Nat, (l.getD j El.d).t = (p : Int) := ⟨(l.getD j El.d).t.toNat, by omega⟩
    unfold weirkeep_MatchHall_c1_B1
    rw [hf, hp, ck_some (by omega), Int.toNat_natCast, Int.toNat_natCast, bit_nat, shl_nat]
    by_cases c : bit s (f : Int) = 1
    · rw [if_pos c, ck_some (by omega)]
      refine ⟨_, rfl, fun y hy => ?_⟩
      rw [bit_orS u hy (by omega), hI y hy]
      constructor
      · rintro (⟨k, hk, h1, h2⟩ | h)
        · exact ⟨k, by omega, h1, h2⟩
        · exact ⟨j, by omega, by rw [hp, h], by rw [hf]; exact c⟩
      · rintro ⟨k, hk, h1, h2⟩
        by_cases z : k = j
        · subst z; rw [hp] at h1; exact .inr (by omega)
        · exact .inl ⟨k, by omega, h1, h2⟩
    · rw [if_neg c]
      refine ⟨_, rfl, fun y hy => (hI y hy).trans ⟨fun ⟨k, hk, h1, h2⟩ => ⟨k, by omega, h1, h2⟩, fun ⟨k, hk, h1, h2⟩ => ?_⟩⟩
      by_cases z : k = j
      · subst z; rw [hf] at h2; exact absurd h2 c
      · exact ⟨k, by omega, h1, h2⟩
  unfold weirkeep_MatchHall_c1_F
  rw [e, bind_some', onesW_ok, bind_some']
  rw [Nat.zero_add] at h
  refine ⟨u, rfl, fun y hy => (h y hy).trans ⟨fun ⟨k, hk, h1, h2⟩ => ⟨_, mem_getD hk, h1, h2⟩, fun ⟨a, ha, h1, h2⟩ => ?_⟩⟩
  obtain ⟨k, hk, e⟩ := getD_of_mem (d := El.d) ha
  exact ⟨k, hk, by rw [e]; exact h1, by rw [e]; exact h2⟩
theorem part_ones (x : Int) {k : Nat} (hk : k ≤ 16) : tot (fun y => bit x (y : Int)) k ≤ onesG x := by
  have := tot_split (fun y => bit x (y : Int)) k (16 - k)
  rw [show k + (16 - k) = 16 by omega] at this
  have h := tot_nonneg (f := fun i => bit x ((k + i : Nat) : Int)) (n := 16 - k) fun i _ => by have := bit01 x ((k + i : Nat) : Int); omega
  unfold onesG
  omega
theorem MatchHall_true (m n : Int) (l : List Arc) (set_ : Int) : weirkeep_MatchHall_F m n l set_ = some true := by
  unfold weirkeep_MatchHall_F
  rw [matesL_ok, bind_some', if_neg (by decide)]
  rcases most_pairs m n l with ⟨hP, p, mate, e, em, hM, hsz, hb⟩ | ⟨_, er, he, ec, e⟩
  · obtain ⟨a, b, s, eh, hH⟩ := hold_ok hP em hM
    have hm0 := hP.m0; have hm1 := hP.m1; have hn1 := hP.n1
    have hmk : IntKind.u16.wrap ((IntKind.u16.wrap (1 * 2 ^ min m.toNat 16)) - 1) = mask m := rfl
    have es : match_Short_F m n l = some (if ((p.length : Nat) : Int) = m then (0, 5) else (bitsOf .andNot .u16 (mask m) a, 0)) := by
      unfold match_Short_F
      rw [eh, bind_some']
      dsimp only
      rw [if_neg (by decide), e, bind_some', hmk]
      dsimp only
      by_cases c : ((p.length : Nat) : Int) = m
      · rw [if_pos c, if_pos c]
      · rw [if_neg c, if_neg c, ck_some hm0]
    rw [e, bind_some']
    dsimp only
    rw [es, bind_some', hmk]
    have hcs : tot (fun x => 1 * cntM l mate n.toNat (x : Int)) m.toNat = (p.length : Int) := by
      rw [cnt_weigh hP hM.mv (fun _ => 1), hsz]; rfl
    by_cases c : ((p.length : Nat) : Int) = m
    · rw [if_pos c]
      dsimp only
      rw [if_neg (by decide), if_pos c, ck_some hm0, if_pos rfl]
      obtain ⟨u, eu, hu⟩ := near_ok hP (bitsOf .and .u16 set_ (mask m))
      rw [eu, bind_some', onesW_ok, bind_some']
      have hall : ∀ x : Nat, x < m.toNat → cntM l mate n.toNat x = 1 := fun x hx => by
        have := tot_eq_each (f := fun x => 1 * cntM l mate n.toNat (x : Int)) (g := fun _ => 1) (n := m.toNat) (fun x _ => by have := (hM.one x).2; omega) (by rw [hcs, tot_const]; omega) x hx
        omega
      have h1 : onesG (bitsOf .and .u16 set_ (mask m)) = tot (fun x => bit (bitsOf .and .u16 set_ (mask m)) (x : Int)) m.toNat := ones_tot (by omega) fun x h1 h2 => by
        have q := bit_and set_ (mask m) (x := (x : Int)) (by omega) (by omega)
        rw [bit_mask (by omega) (by omega)] at q
        have := bit01 (bitsOf .and .u16 set_ (mask m)) (x : Int)
        omega
      have h2 := cnt_weigh hP hM.mv (fun x => bit (bitsOf .and .u16 set_ (mask m)) (x : Int))
      rw [tot_congr (f := fun x => bit (bitsOf .and .u16 set_ (mask m)) ((x : Nat) : Int) * cntM l mate n.toNat (x : Int)) (g := fun x => bit (bitsOf .and .u16 set_ (mask m)) (x : Int)) fun x hx => by rw [hall x hx]; omega] at h2
      have h3 : tot (fun y => if 0 ≤ mate.getD y 0 then bit (bitsOf .and .u16 set_ (mask m)) (((par l mate y).toNat : Nat) : Int) else 0) n.toNat ≤ tot (fun y => bit u (y : Int)) n.toNat := tot_le fun y hy => by
        have b1 := bit01 u (y : Int)
        by_cases c0 : 0 ≤ mate.getD y 0
        · rw [if_pos c0]
          have hr := par_rng hP hM.mv hy c0
          rw [show (((par l mate y).toNat : Nat) : Int) = par l mate y by omega]
          have b2 := bit01 (bitsOf .and .u16 set_ (mask m)) (par l mate y)
          rcases b2 with q | q
          · omega
          · rcases hM.mv.v y hy with z | ⟨_, z2, z3⟩
            · omega
            · have := (hu y (by omega)).2 ⟨_, mem_getD (d := El.d) (show (mate.getD y 0).toNat < l.length by omega), z3, q⟩
              omega
        · rw [if_neg c0]; omega
      have h4 := part_ones u (k := n.toNat) (by omega)
      exact congrArg some (decide_eq_true (by omega))
    · rw [if_neg c]
      dsimp only
      rw [if_neg (by decide), if_neg c, if_pos rfl]
      obtain ⟨u, eu, hu⟩ := near_ok hP (bitsOf .andNot .u16 (mask m) a)
      rw [eu, bind_some', onesW_ok, bind_some']
      -- what is left of the first side
      have hS : ∀ x : Nat, x < 16 → (bit (bitsOf .andNot .u16 (mask m) a) (x : Int) = 1 ↔ x < m.toNat ∧ bit s (x : Int) = 1) := fun x hx => by
        rw [bit_andNot _ _ (by omega) (by omega), bit_mask (by omega) (by omega), hH.ea x hx]
        constructor
        · rintro ⟨q1, q2⟩
          exact ⟨by omega, Classical.byContradiction fun z => q2 ⟨by omega, z⟩⟩
        · rintro ⟨q1, q2⟩
          exact ⟨by omega, fun z => z.2 q2⟩
      have o1 : onesG (bitsOf .andNot .u16 (mask m) a) = tot (fun x => bit s (x : Int)) m.toNat := by
        rw [ones_tot (s := bitsOf .andNot .u16 (mask m) a) (k := m.toNat) (by omega) fun x h1 h2 => by
          have := hS x h2
          have := bit01 (bitsOf .andNot .u16 (mask m) a) (x : Int)
          omega]
        refine tot_congr fun x hx => ?_
        have := hS x (by omega)
        have := bit01 (bitsOf .andNot .u16 (mask m) a) (x : Int)
        have := bit01 s (x : Int)
        omega
      have hub : ∀ y : Nat, y < 16 → bit u (y : Int) = 1 → y < n.toNat ∧ bit b (y : Int) = 1 := fun y hy h => by
        obtain ⟨x, hx, q1, q2⟩ := (hu y hy).1 h
        have har := hP.arc x hx
        have := (hS x.f.toNat (by omega)).1 (by rw [show ((x.f.toNat : Nat) : Int) = x.f by omega]; exact q2)
        rw [show ((x.f.toNat : Nat) : Int) = x.f by omega] at this
        have z := hH.rest.a x hx this.2
        rw [q1] at z
        exact ⟨by omega, z⟩
      have o2 : onesG u ≤ tot (fun y => bit b (y : Int)) n.toNat := by
        rw [ones_tot (s := u) (k := n.toNat) (by omega) fun y h1 h2 => by
          have := hub y h2
          have := bit01 u (y : Int)
          omega]
        refine tot_le fun y hy => ?_
        have := hub y (by omega)
        have := bit01 u (y : Int)
        have := bit01 b (y : Int)
        omega
      have h2 := cnt_weigh hP hM.mv (fun x => bit s (x : Int))
      have o3 : tot (fun y => bit b (y : Int)) n.toNat ≤ tot (fun y => if 0 ≤ mate.getD y 0 then bit s (((par l mate y).toNat : Nat) : Int) else 0) n.toNat := tot_le fun y hy => by
        have b1 := bit01 b (y : Int)
        rcases b1 with q | q
        · rw [q]; split
          · have := bit01 s (((par l mate y).toNat : Nat) : Int); omega
          · omega
        · have hd := hH.dead.b y hy ⟨hy, q⟩
          have hr := par_rng hP hM.mv hy hd.1
          rw [if_pos hd.1, show (((par l mate y).toNat : Nat) : Int) = par l mate y by omega, q]
          exact Int.le_of_eq hd.2.symm
      -- somebody is free
      have hfr : ∃ x : Nat, x < m.toNat ∧ cntM l mate n.toNat x = 0 := Classical.byContradiction fun hno => by
        have : tot (fun x => 1 * cntM l mate n.toNat (x : Int)) m.toNat = tot (fun _ => 1) m.toNat := tot_congr fun x hx => by
          have h1 := hM.one x
          by_cases z : cntM l mate n.toNat x = 0
          · exact absurd ⟨x, hx, z⟩ hno
          · omega
        rw [hcs, tot_const] at this
        omega
      obtain ⟨x, hx, hx0⟩ := hfr
      have hsx := hH.free x hx hx0
      have o4 := tot_lt' (f := fun x => bit s ((x : Nat) : Int) * cntM l mate n.toNat (x : Int)) (g := fun x => bit s (x : Int)) (n := m.toNat) (fun x _ => by
        have h1 := hM.one x
        rcases bit01 s (x : Int) with q | q <;> rw [q] <;> omega) hx (by rw [hx0, hsx]; decide)
      exact congrArg some (decide_eq_true (by omega))
  · have es : match_Short_F m n l = some (0, er) := by
      unfold match_Short_F
      rw [hold_bad he ec, bind_some']
      dsimp only
      rw [if_pos he]
    rw [e, bind_some']
    dsimp only
    rw [es, bind_some']
    dsimp only
    rw [if_pos he, if_pos rfl]; rfl
end Go.Proofs.Ythgjamhcnaamdaa
