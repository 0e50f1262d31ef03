/- StableOther: the law's function answers true. -/
import Derived.Test.YtdjllkoljpjohaaPflip
import Derived.Test.YtdjllkoljpjohaaKStableOther
namespace Go.Proofs.Ytdjllkoljpjohaa
open Go Go.Proofs.Ytdjllkoljpjohaa.Sx
set_option linter.unusedVariables false
set_option linter.unusedSimpArgs false
theorem stablesO_ok : weirkeep_stables_F = some true := by kernel_rfl
theorem StableOther_true (a b : List (List Int)) (p : List Int) : weirkeep_StableOther_F a b p = some true := by
  unfold weirkeep_StableOther_F
  rw [stablesO_ok, bind_some', if_neg (by decide)]
  by_cases hok : OkS a b
  · obtain ⟨q, eq, hB⟩ := stable_best hok
    obtain ⟨r, er, hR⟩ := stable_best hok.flip
    have hlb := hok.lb
    have n6 := hok.n
    have hr := hR.good.perm
    rw [hlb] at hr
    have hrl := hr.len
    rw [eq, bind_some']
    dsimp only
    rw [er, bind_some']
    dsimp only
    rw [if_neg (by decide), if_neg (by decide), ck_some (by omega), Int.toNat_natCast]
    obtain ⟨back, e1, b1, b2⟩ := forC_inv (f := weirkeep_StableOther_B1 r) (fun j (l : List Int) => l.length = a.length ∧ ∀ k i : Nat, k < j → i < a.length → r.getD k 0 = (i : Int) → l.getD i 0 = (k : Int)) (n := r.length) (k := 0) (s := List.replicate r.length 0) ⟨by simpa using hrl, fun k i hk => absurd hk (by omega)⟩ fun j l _ hj ⟨j1, j2⟩ => by
      obtain ⟨o, ho, hoe⟩ := hr.nat (i := j) (by omega)
      unfold weirkeep_StableOther_B1
      rw [hoe, if_neg (by omega), if_neg (by omega), ck_some (by omega), Int.toNat_natCast]
      refine ⟨_, rfl, by simpa using j1, fun k i hk hi hki => ?_⟩
      rw [getD_set']
      by_cases ek : k = j
      · subst ek
        rw [if_pos ⟨by omega, by omega⟩]
      · rw [if_neg (fun z => ek (hr.inj (by omega) (by omega) (by rw [hki, hoe, z.1])))]
        exact j2 k i (by omega) hi hki
    rw [Nat.zero_add, hrl] at b2
    rw [e1, bind_some']
    dsimp only
    have onto : ∀ i, i < a.length → ∃ k : Nat, k < a.length ∧ r.getD k 0 = (i : Int) := fun i hi => by
      have m := ix_mem (hr.all i hi)
      exact ⟨(ix r (i : Int)).toNat, by omega, m.2.2⟩
    have hbp : PermL a.length back := PermL.of b1 (fun i hi => by
      obtain ⟨k, hk, z⟩ := onto i hi
      rw [b2 k i hk hi z]; omega) (fun i j hi hj e => by
      obtain ⟨k, hk, z⟩ := onto i hi
      obtain ⟨l, hl, w⟩ := onto j hj
      rw [b2 k i hk hi z, b2 l j hl hj w] at e
      obtain rfl : k = l := by omega
      omega)
    have hback : Back a.length r back := fun k i hk hi => ⟨fun z => b2 k i hk hi z, fun z => by
      obtain ⟨l, hl, w⟩ := onto i hi
      have := b2 l i hl hi w
      obtain rfl : k = l := by omega
      exact w⟩
    have gback : GoodS a b back := hR.good.flip (by rw [hlb]; exact hbp) (by rw [hlb]; exact hback)
    have e5 : stable_Pair_F a b back = some (0, 0, 5) := by
      rcases pair_cases a b back with ⟨e, _⟩ | ⟨_, _, _, _, _, z⟩
      · exact e
      · exact absurd gback z
    have fin : GoodS a b p → q = back → p = q := fun g eqb => by
      have hp := g.perm
      have hq := hB.good.perm
      refine eq_of_getD (d := 0) (by rw [hp.len, hq.len]) fun i hi => ?_
      rw [hp.len] at hi
      obtain ⟨k, hk, z⟩ := hq.nat hi
      have mp := ix_mem (hp.all k hk)
      have hpl := hp.len
      obtain ⟨pi, hpi, hpb⟩ := Back.make hp
      have gp := g.flip hpi hpb
      have hj : (ix p (k : Int)).toNat < a.length := by omega
      -- for the other side this one is the best, and for the first side the best
      have w1 := hB.worst g hk hi hj z mp.2.2
      have rk1 : r.getD k 0 = (i : Int) := (hback k i hk hi).2 (by rw [← eqb]; exact z)
      have w2 := hR.best pi gp.st k (by rw [hlb]; exact hk)
      have e3 : pi.getD k 0 = (((ix p (k : Int)).toNat : Nat) : Int) := (hpb _ k hj hk).1 mp.2.2
      rw [rk1, e3] at w2
      have R := hok.ranks
      have e4 := R.s (k : Int) (ix p (k : Int)).toNat i (by omega) (by omega) hj hi (by rw [rkB_rk, rkB_rk]; omega)
      rw [z, ← mp.2.2, e4]
    rcases pair_cases a b p with ⟨e, g⟩ | ⟨x, y, z, e, hz, _⟩
    · rw [e, bind_some', e5, bind_some']
      dsimp only
      rw [if_pos rfl, equalInts_eq, bind_some']
      by_cases c : q = back
      · rw [decide_eq_true c, if_neg (by decide), if_neg (by decide), equalInts_eq, bind_some', decide_eq_true (fin g c)]
      · rw [decide_eq_false c, if_pos (show (!false) = true from rfl)]
    · rw [e, bind_some', e5, bind_some']
      dsimp only
      rw [if_pos rfl, equalInts_eq, bind_some']
      by_cases c : q = back
      · rw [decide_eq_true c, if_neg (by decide), if_pos hz]
      · rw [decide_eq_false c, if_pos (show (!false) = true from rfl)]
  · obtain ⟨e, he, h⟩ := stable_bad hok
    rw [h, bind_some']
    rcases checkS b a with ⟨e2, he2, h2⟩
    have hbad : ¬ OkS b a := fun z => hok z.flip
    obtain ⟨e3, he3, h3⟩ := stable_bad hbad
    dsimp only
    rw [h3, bind_some']
    dsimp only
    rw [if_pos he]
    by_cases c : e = e3
    · rw [if_pos c]
    · rw [if_neg c]
      rfl
end Go.Proofs.Ytdjllkoljpjohaa
