/- MatchHolds: the law's function answers true. -/
import Derived.Test.YthgjamhcnaamdaaPhold
import Derived.Test.YthgjamhcnaamdaaKMatchHolds
namespace Go.Proofs.Ythgjamhcnaamdaa
open Go Go.Proofs.Ythgjamhcnaamdaa.Sx
set_option linter.unusedVariables false
set_option linter.unusedSimpArgs false
theorem matesH_ok : weirkeep_mates_F = some true := by kernel_rfl
theorem tot_ones (x : Int) {k : Nat} (hk : k ≤ 16) : tot (fun y => if y < 16 then bit x (y : Int) else 0) k ≤ onesG x := by
  have := tot_split (fun y => bit x (y : Int)) k (16 - k)
  rw [show k + (16 - k) = 16 by omega] at this
  have h := tot_nonneg (f := fun i => bit x ((k + i : Nat) : Int)) (n := 16 - k) fun i _ => by have := bit01 x ((k + i : Nat) : Int); omega
  rw [tot_congr (g := fun y => bit x (y : Int)) fun y hy => if_pos (by omega)]
  unfold onesG
  omega
theorem MatchHolds_true (m n : Int) (l : List Arc) (x y : Int) : weirkeep_MatchHolds_F m n l x y = some true := by
  unfold weirkeep_MatchHolds_F
  rw [matesH_ok, bind_some', if_neg (by decide)]
  rcases most_pairs m n l with ⟨hP, p, mate, e, em, hM, hsz, hb⟩ | ⟨_, er, he, ec, e⟩
  · obtain ⟨a, b, s, eh, hH⟩ := hold_ok hP em hM
    have hm1 := hP.m1; have hn1 := hP.n1
    rw [e, bind_some']
    dsimp only
    rw [eh, bind_some']
    dsimp only
    rw [if_neg (by decide), if_neg (by decide)]
    have oa := onesG_b a; have ob := onesG_b b
    have hab : onesG a + onesG b = (p.length : Int) := by rw [hH.size, hsz]
    obtain ⟨q, e2, hq⟩ := forC_or (f := weirkeep_MatchHolds_B1 l x y p a b) (fun j _ => ∀ k, k < j → bit x (l.getD k El.d).f = 1 ∨ bit y (l.getD k El.d).t = 1) (fun q => q = .ret true ∨ q = .go () ∧ ∀ k, k < l.length → bit x (l.getD k El.d).f = 1 ∨ bit y (l.getD k El.d).t = 1) (n := l.length) (k := 0) (s := ()) (fun k hk => absurd hk (by omega)) (fun j u _ hj hI => by
      have hmem := mem_getD (d := El.d) (show j < l.length by omega)
      have ha := hP.arc _ hmem
      have hc := hH.cov.c _ hmem
      obtain ⟨f, hf⟩ : ∃ f : Nat, (l.getD j El.d).f = (f : Int) := ⟨(l.getD j El.d).f.toNat, by omega⟩
      obtain ⟨t, ht⟩ : ∃ t : Nat, (l.getD j El.d).t = (t : Int) := ⟨(l.getD j El.d).t.toNat, by omega⟩
      unfold weirkeep_MatchHolds_B1
      rw [hf, ht] at ha hc
      rw [Int.toNat_natCast, Int.toNat_natCast, if_pos (by omega), if_pos (by omega)] at hc
      rw [hf, ht, ck_some (by omega), ck_some (by omega), Int.toNat_natCast, Int.toNat_natCast, bit_nat, bit_nat, bit_nat, bit_nat]
      have first : (if bit a (f : Int) = 0 then if bit b (t : Int) = 0 then some (Ex.ret (Ct.ret false) : Ex Unit (Ct Unit Bool)) else some (.go ()) else some (.go ())) = some (.go ()) := by
        by_cases c1 : bit a (f : Int) = 0
        · rw [if_pos c1, if_neg (fun z => by rcases hc with q | q <;> omega)]
        · rw [if_neg c1]
      rw [first, bind_some']
      dsimp only
      rw [ck_some (by omega)]
      by_cases c2 : bit x (f : Int) = 0
      · rw [if_pos c2, ck_some (by omega)]
        by_cases c3 : bit y (t : Int) = 0
        · rw [if_pos c3, onesW_ok, bind_some', onesW_ok, bind_some', ck_some (inI_small (by omega) (by omega))]
          exact .inr (.inr ⟨_, rfl, .inl (by rw [decide_eq_true hab])⟩)
        · rw [if_neg c3]
          refine .inl ⟨(), rfl, fun k hk => ?_⟩
          by_cases z : k = j
          · subst z
            rw [ht]
            have := bit01 y (t : Int); exact .inr (by omega)
          · exact hI k (by omega)
      · rw [if_neg c2]
        refine .inl ⟨(), rfl, fun k hk => ?_⟩
        by_cases z : k = j
        · subst z
          rw [hf]
          have := bit01 x (f : Int); exact .inl (by omega)
        · exact hI k (by omega)) (fun u hI => .inr ⟨rfl, by rw [Nat.zero_add] at hI; exact hI⟩)
    rw [e2, bind_some']
    rcases hq with rfl | ⟨rfl, hcov⟩
    · rfl
    · dsimp only
      have ox := onesG_b x; have oy := onesG_b y
      rw [onesW_ok, bind_some', onesW_ok, bind_some', ck_some (inI_small (by omega) (by omega)), if_pos hab, onesW_ok, bind_some', onesW_ok, bind_some', ck_some (inI_small (by omega) (by omega))]
      have hc : Cov l (fun z => if z < 16 then bit x (z : Int) else 0) (fun z => if z < 16 then bit y (z : Int) else 0) := ⟨fun z => by
        split
        · exact bit01 _ _
        · exact .inl rfl, fun z => by
        split
        · exact bit01 _ _
        · exact .inl rfl, fun e he => by
        obtain ⟨k, hk, q⟩ := getD_of_mem (d := El.d) he
        have har := hP.arc e he
        have := hcov k hk
        rw [q] at this
        rw [if_pos (by omega), if_pos (by omega), show ((e.f.toNat : Nat) : Int) = e.f by omega, show ((e.t.toNat : Nat) : Int) = e.t by omega]
        exact this⟩
      have h1 := hb.le hP hc
      have h2 := tot_ones x (k := m.toNat) (by omega)
      have h3 := tot_ones y (k := n.toNat) (by omega)
      exact congrArg some (decide_eq_true (by omega))
  · rw [e, bind_some']
    dsimp only
    rw [hold_bad he ec, bind_some']
    dsimp only
    rw [if_pos he, if_pos rfl]; rfl
end Go.Proofs.Ythgjamhcnaamdaa
