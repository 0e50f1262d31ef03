/- StableBest: the law's function answers true. -/
import Derived.Test.YtdjllkoljpjohaaPflip
import Derived.Test.YtdjllkoljpjohaaKStableBest
namespace Go.Proofs.Ytdjllkoljpjohaa
open Go Go.Proofs.Ytdjllkoljpjohaa.Sx
set_option linter.unusedVariables false
set_option linter.unusedSimpArgs false
theorem stables_ok : weirkeep_stables_F = some true := by kernel_rfl
theorem rank_eq (l : List Int) (v : Int) : weirref_Rank_F l v = some (ix l v) := by
  unfold weirref_Rank_F
  rw [ix_eq, bind_some']
theorem StableBest_true (a b : List (List Int)) (p : List Int) : weirkeep_StableBest_F a b p = some true := by
  unfold weirkeep_StableBest_F
  rw [stables_ok, bind_some', if_neg (by decide)]
  by_cases hok : OkS a b
  · obtain ⟨q, eq, hB⟩ := stable_best hok
    have hlb := hok.lb
    rw [eq, bind_some']
    dsimp only
    rw [if_neg (by decide)]
    rcases pair_cases a b q with ⟨e, _⟩ | ⟨_, _, _, _, _, z⟩
    · rw [e, bind_some']
      dsimp only
      rw [if_neg (by decide)]
      rcases pair_cases a b p with ⟨e, g⟩ | ⟨x, y, z, e, hz, _⟩
      · rw [e, bind_some']
        dsimp only
        rw [if_neg (by decide)]
        have hq := hB.good.perm
        have hp := g.perm
        have hloop : forC (weirkeep_StableBest_B1 a b p q) a.length 0 () = some (.go ()) := forC_all fun k _ hk => by
          have hk' : k < a.length := by omega
          have ql := hq.len
          have pl := hp.len
          have h1 : ix (a.getD k []) (q.getD k 0) ≤ ix (a.getD k []) (p.getD k 0) := hB.best p g.st k hk'
          have mq := ix_mem (hq.all k hk')
          have mp := ix_mem (hp.all k hk')
          have h2 : ix (b.getD k []) (ix p (k : Int)) ≤ ix (b.getD k []) (ix q (k : Int)) := by
            have := hB.worst g (k := k) (i := (ix q (k : Int)).toNat) (j := (ix p (k : Int)).toNat) hk' (by omega) (by omega) mq.2.2 mp.2.2
            unfold rk at this
            rwa [Int.toNat_of_nonneg mp.1, Int.toNat_of_nonneg mq.1] at this
          unfold weirkeep_StableBest_B1
          rw [ck_some (by omega), ck_some (by omega), rank_eq, bind_some', rank_eq, bind_some', if_neg (by omega), ck_some (by omega), rank_eq, bind_some', rank_eq, bind_some', rank_eq, bind_some', rank_eq, bind_some', if_neg (by omega)]
        rw [hloop, bind_some']
      · rw [e, bind_some']
        dsimp only
        rw [if_pos hz]
    · exact absurd hB.good z
  · obtain ⟨e, he, h⟩ := stable_bad hok
    rw [h, bind_some']
    dsimp only
    rw [if_pos he]
    rfl
end Go.Proofs.Ytdjllkoljpjohaa
