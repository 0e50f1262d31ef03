/- NeedLess: the law's function answers true. -/
import Derived.Test.YtdklbcgfjleagaaPneed
import Derived.Test.YtdklbcgfjleagaaPref
import Derived.Test.YtdklbcgfjleagaaKNeedLess
namespace Go.Proofs.Ytdklbcgfjleagaa
open Go Go.Proofs.Ytdklbcgfjleagaa.Sx
set_option linter.unusedVariables false
set_option linter.unusedSimpArgs false
theorem needsL_eq : weirkeep_needs_F = some true := by kernel_rfl
theorem NeedLess_true (n : Int) (l : List Need) (k low more : Int) : weirkeep_NeedLess_F n l k low more = some true := by
  unfold weirkeep_NeedLess_F
  rw [needsL_eq, bind_some', if_neg (by decide)]
  rcases round_cases n l with ⟨h, g, hg, e⟩ | ⟨h, _, e⟩ | ⟨_, e, he, _, e1⟩
  · rw [e, bind_some']
    dsimp only
    rw [if_neg (by decide)]
    by_cases k0 : k < 0
    · rw [if_pos k0]
    by_cases k1 : (l.length : Int) ≤ k
    · rw [if_neg k0, if_pos k1]
    rw [if_neg k0, if_neg k1]
    have hlen := h.len
    have hk : k.toNat < l.length := by omega
    obtain ⟨hfr, lo0, lo1, ca⟩ := h.at hk
    obtain ⟨r, er, r0, r1⟩ := rest_ok (n := low) (m := (l.getD k.toNat El.d).low + 1) (by omega) (by omega)
    obtain ⟨m, em, m0, m1⟩ := rest_ok (n := more) (m := 334 - (l.getD k.toNat El.d).cap) (by omega) (by omega)
    have hclone : slices_Clone_Need_F l = some l := by unfold slices_Clone_Need_F; rw [ck_some (by omega)]; rfl
    have hset : (l.set k.toNat (⟨(l.getD k.toNat El.d).f, (l.getD k.toNat El.d).t, r, (l.getD k.toNat El.d).cap⟩ : Need)).getD k.toNat El.d = ⟨(l.getD k.toNat El.d).f, (l.getD k.toNat El.d).t, r, (l.getD k.toNat El.d).cap⟩ := by rw [getD_set', if_pos ⟨rfl, hk⟩]
    rw [hclone, bind_some', ck_some (by omega), ck_some (inI_small (by omega) (by omega)), er, bind_some', ck_some (by omega), ck_some (inI_small (by omega) (by omega)), em, bind_some', hset]
    dsimp only
    rw [ck_some (inI_small (by omega) (by omega))]
    have hgetD : ∀ i, (l.set k.toNat (⟨(l.getD k.toNat El.d).f, (l.getD k.toNat El.d).t, r, (l.getD k.toNat El.d).cap + m⟩ : Need)).getD i El.d = if i = k.toNat then ⟨(l.getD k.toNat El.d).f, (l.getD k.toNat El.d).t, r, (l.getD k.toNat El.d).cap + m⟩ else l.getD i El.d := fun i => by
      rw [getD_set']
      by_cases q : i = k.toNat
      · rw [if_pos ⟨q, hk⟩, if_pos q]
      · rw [if_neg (fun z => q z.1), if_neg q]
    generalize hM : l.set k.toNat (⟨(l.getD k.toNat El.d).f, (l.getD k.toNat El.d).t, r, (l.getD k.toNat El.d).cap + m⟩ : Need) = M at hgetD
    have hMl : M.length = l.length := by rw [← hM]; simp
    have hok : NeedOk n M := ⟨h.n0, h.n1, by omega, fun a ha => by
      obtain ⟨i, hi, ea⟩ := getD_of_mem (d := El.d) ha
      rw [← ea, hgetD]
      split
      · dsimp only; omega
      · exact h.at (by omega)⟩
    have hcirc : Circ n M g := ⟨by rw [hMl]; exact hg.len, fun i hi => by
      have hb := hg.bnd i (by omega)
      rw [hgetD]
      split
      · rename_i q; rw [q] at hb ⊢; dsimp only; omega
      · exact hb, fun x hx => by
      have := hg.keep x hx
      unfold netAt at this ⊢
      rw [arcsN_len] at this ⊢
      rw [hMl, ← this]
      refine tot_congr fun i hi => ?_
      rw [term_N, term_N, hgetD]
      by_cases q : i = k.toNat
      · rw [if_pos q, q]
      · rw [if_neg q]⟩
    rcases round_cases n M with ⟨_, g2, _, e2⟩ | ⟨_, hno, _⟩ | ⟨hbad, _⟩
    · rw [e2, bind_some']; rfl
    · exact absurd hcirc (hno g)
    · exact absurd hok hbad
  · rw [e, bind_some']
    dsimp only
    rw [if_pos (by decide)]
  · rw [e1, bind_some']
    dsimp only
    rw [if_pos he]
end Go.Proofs.Ytdklbcgfjleagaa
