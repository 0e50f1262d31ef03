/- ProofMade: the law's function answers true. -/
import Derived.Test.YtdklbcgfjleagaaPproof
import Derived.Test.YtdklbcgfjleagaaPref
import Derived.Test.YtdklbcgfjleagaaKProofMade
namespace Go.Proofs.Ytdklbcgfjleagaa
open Go Go.Proofs.Ytdklbcgfjleagaa.Sx
set_option linter.unusedVariables false
set_option linter.unusedSimpArgs false
theorem proofsM_eq : weirkeep_proofs_F = some true := by kernel_rfl
/-- a flow with one more along an arc is a flow no more, but where the arc leads to where it began, or the ends are told otherwise -/
theorem one_more {n : Net} {f : List Int} (hf : Flow n f) {k : Nat} (hk : k < f.length) (hv : netAt n.as (f.set k (f.getD k 0 + 1)) n.s = netAt n.as f n.s) (h2 : Flow n (f.set k (f.getD k 0 + 1))) : (n.as.getD k El.d).f = (n.as.getD k El.d).t := by
  have hk' : k < n.as.length := by rw [← hf.len]; exact hk
  have hd : ∀ z, netAt n.as (f.set k (f.getD k 0 + 1)) z = netAt n.as f z + ((if (n.as.getD k El.d).f = z then 1 else 0) - (if (n.as.getD k El.d).t = z then 1 else 0)) := fun z => by
    rw [netAt_set hk' hf.len]
    congr 1
    rw [show f.getD k 0 + 1 - f.getD k 0 = 1 by omega, Int.one_mul]
  refine Classical.byContradiction fun hne => ?_
  have hG := hf.net.small hk'
  -- where the arc begins more goes than before
  have e1 := hd (n.as.getD k El.d).f
  rw [if_pos rfl, if_neg (fun h => hne h.symm)] at e1
  have es := hf.ends
  have es2 := h2.ends
  by_cases h1 : (n.as.getD k El.d).f = n.s
  · rw [← h1] at hv; omega
  · by_cases h3 : (n.as.getD k El.d).f = n.t
    · rw [← h3] at es es2; omega
    · have a1 := hf.keep (n.as.getD k El.d).f.toNat (by omega) (by omega) (by omega)
      have a2 := h2.keep (n.as.getD k El.d).f.toNat (by omega) (by omega) (by omega)
      rw [show (((n.as.getD k El.d).f.toNat : Nat) : Int) = (n.as.getD k El.d).f by omega] at a1 a2
      omega
open Classical in
theorem ProofMade_true (n : Net) (b k : Int) : weirkeep_ProofMade_F n b k = some true := by
  unfold weirkeep_ProofMade_F
  rw [proofsM_eq, bind_some', if_neg (by decide)]
  by_cases hn : OkNet n
  · obtain ⟨p, e, hp⟩ := make_ok hn
    obtain ⟨r, er, r0, r1⟩ := rest_ok (n := b) (m := 100) (by omega) (by omega)
    have hlen := hn.g.len
    dsimp only at hlen
    have hfl := hp.flow.len
    have v0 := hp.max.nonneg hn; have v1 := hp.max.le_total hn
    have hclone : slices_Clone_int_F p.flow = some p.flow := by unfold slices_Clone_int_F; rw [ck_some (by omega)]; rfl
    have n1 : ¬ Proves n ⟨p.value + (1 + r), p.flow, p.side⟩ := fun h => by
      have h1 := h.value; have h2 := hp.value
      dsimp only at h1
      omega
    have n2 : ¬ Proves n ⟨p.value, p.flow ++ [0], p.side⟩ := fun h => by
      have h1 := h.flow.len
      simp only [List.length_append, List.length_cons, List.length_nil] at h1
      omega
    rw [e, bind_some']
    dsimp only
    rw [if_neg (by decide), proofCheck_ok hn, bind_some']
    dsimp only
    rw [er, bind_some', ck_some (inI_small (by omega) (by omega)), ck_some (inI_small (by omega) (by omega)), proofCheck_ok hn, bind_some']
    dsimp only
    rw [hclone, bind_some', ck_some (by omega), proofCheck_ok hn, bind_some']
    dsimp only
    rw [if_neg (by decide), if_neg (by decide), if_neg (by decide), decide_eq_true hp, if_neg (by decide), decide_eq_false n1, if_neg (by decide), decide_eq_false n2, if_neg (by decide)]
    by_cases k0 : k < 0
    · rw [if_pos k0]
    rw [if_neg k0]
    by_cases k1 : (p.flow.length : Int) ≤ k
    · rw [if_pos k1]
    have hk : k.toNat < p.flow.length := by omega
    have hr := hp.flow.r k.toNat hk
    have hc := (hn.arc (k := k.toNat) (by omega)).c1
    rw [if_neg k1, if_neg (by omega), bind_some', ck_some (by omega), ck_some (inI_small (by omega) (by omega)), proofCheck_ok hn, bind_some']
    dsimp only
    rw [if_pos rfl]
    by_cases hq : Proves n ⟨p.value, p.flow.set k.toNat (p.flow.getD k.toNat 0 + 1), p.side⟩
    · rw [decide_eq_true hq, if_neg (by decide), ck_some (by omega)]
      have hv := hq.value
      have h2 := hp.value
      have hfl2 := hq.flow
      dsimp only at hv hfl2
      exact congrArg some (decide_eq_true (one_more hp.flow hk (by omega) hfl2))
    · rw [decide_eq_false hq, if_pos (by decide)]
  · obtain ⟨e, he, h⟩ := make_bad hn
    rw [h, bind_some']
    dsimp only
    rw [if_pos he]; rfl
end Go.Proofs.Ytdklbcgfjleagaa
