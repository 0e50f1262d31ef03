/- MostGrows: the law's function answers true. -/
import Derived.Test.YtclaacfebgigiaaPcut
import Derived.Test.YtclaacfebgigiaaPref
import Derived.Test.YtclaacfebgigiaaKMostGrows
namespace Go.Proofs.Ytclaacfebgigiaa
open Go Go.Proofs.Ytclaacfebgigiaa.Sx
set_option linter.unusedVariables false
set_option linter.unusedSimpArgs false
def grown (n : Net) (k : Nat) (by' : Int) : Net := ⟨n.n, n.s, n.t, n.as.set k ⟨(n.as.getD k El.d).f, (n.as.getD k El.d).t, (n.as.getD k El.d).c + by'⟩⟩
theorem grown_arc {n : Net} {k : Nat} {by' : Int} (hk : k < n.as.length) (i : Nat) : ((grown n k by').as.getD i El.d).f = (n.as.getD i El.d).f ∧ ((grown n k by').as.getD i El.d).t = (n.as.getD i El.d).t ∧ ((grown n k by').as.getD i El.d).c = (n.as.getD i El.d).c + if i = k then by' else 0 := by
  unfold grown
  dsimp only
  rw [getD_set']
  by_cases e : i = k
  · rw [if_pos ⟨e, hk⟩, if_pos e, e]; exact ⟨rfl, rfl, rfl⟩
  · rw [if_neg (fun h => e h.1), if_neg e]; exact ⟨rfl, rfl, by omega⟩
theorem grown_ok {n : Net} (hn : OkNet n) {k : Nat} {by' : Int} (hk : k < n.as.length) (h0 : 0 ≤ by') (h1 : (n.as.getD k El.d).c + by' ≤ 10000) : OkNet (grown n k by') := by
  refine ⟨⟨hn.g.n0, hn.g.n1, ?_, fun a ha => ?_⟩, hn.s0, hn.s1, hn.t0, hn.t1, hn.ne⟩
  · have := hn.g.len; simpa [grown] using this
  · obtain ⟨i, hi, e⟩ := getD_of_mem (d := El.d) ha
    have hi' : i < n.as.length := by simpa [grown] using hi
    obtain ⟨e1, e2, e3⟩ := grown_arc (n := n) (by' := by') hk i
    dsimp only at e
    rw [← e]
    have hG := hn.arc hi'
    have c0 := hG.c0; have c1 := hG.c1
    refine ⟨by rw [e1]; exact hG.f0, by rw [e1]; exact hG.f1, by rw [e2]; exact hG.t0, by rw [e2]; exact hG.t1, ?_, ?_⟩
    · rw [e3]; split <;> omega
    · rw [e3]
      split
      · rename_i h; subst h; exact h1
      · omega
theorem netAt_congr {L M : List Arc} {f : List Int} {z : Int} (hl : L.length = M.length) (h : ∀ i, i < L.length → (L.getD i El.d).f = (M.getD i El.d).f ∧ (L.getD i El.d).t = (M.getD i El.d).t) : netAt L f z = netAt M f z := by
  unfold netAt
  rw [← hl]
  refine tot_congr fun i hi => ?_
  obtain ⟨e1, e2⟩ := h i hi
  unfold term
  rw [e1, e2]
theorem grown_max {n : Net} (hn : OkNet n) {k : Nat} {by' v w : Int} (hk : k < n.as.length) (h0 : 0 ≤ by') (h1 : (n.as.getD k El.d).c + by' ≤ 10000) (hv : MaxV n v) (hw : MaxV (grown n k by') w) : v ≤ w ∧ w ≤ v + by' := by
  have hl : (grown n k by').as.length = n.as.length := by simp [grown]
  have ha := grown_arc (n := n) (by' := by') hk
  constructor
  · obtain ⟨f, hf, e⟩ := hv.flow
    have hnet : ∀ z, netAt (grown n k by').as f z = netAt n.as f z := fun z => netAt_congr hl fun i _ => ⟨(ha i).1, (ha i).2.1⟩
    have hF : Flow (grown n k by') f := ⟨grown_ok hn hk h0 h1, by rw [hl]; exact hf.len, fun i hi => by
      have := hf.r i hi
      rw [(ha i).2.2]
      split <;> omega, fun x hx q1 q2 => by rw [hnet]; exact hf.keep x hx q1 q2⟩
    have := hw.le hF
    rw [hnet] at this
    rw [← e]; exact this
  · obtain ⟨S, hS, e⟩ := hv.cut
    have hC : Cut (grown n k by') S := ⟨hS.s, hS.t, hS.b⟩
    have := hw.ge hC
    have h2 : capS (grown n k by').as S ≤ capS n.as S + by' := by
      unfold capS
      rw [hl]
      have e2 : tot (cross (grown n k by').as S) n.as.length ≤ tot (fun i => cross n.as S i + if i = k then by' else 0) n.as.length := tot_le fun i hi => by
        obtain ⟨e1, e2, e3⟩ := ha i
        unfold cross
        rw [e1, e2, e3]
        split <;> split <;> omega
      rw [tot_add, tot_single (f := fun i => if i = k then by' else 0) hk (fun i _ hi => if_neg hi)] at e2
      rw [if_pos rfl] at e2
      exact e2
    omega
theorem MostGrows_true (n : Net) (k by' : Int) : weirkeep_MostGrows_F n k by' = some true := by
  unfold weirkeep_MostGrows_F
  rw [mosts_eq, bind_some', if_neg (by decide)]
  by_cases hn : OkNet n
  · obtain ⟨g, v, e, h1, h2, hM⟩ := of_max hn
    have hlen := hn.g.len
    dsimp only at hlen
    rw [e, bind_some']
    dsimp only
    rw [if_neg (by decide)]
    by_cases k0 : k < 0
    · rw [if_pos k0, if_pos rfl]
    rw [if_neg k0]
    by_cases k1 : (n.as.length : Int) ≤ k
    · rw [if_pos k1, if_pos rfl]
    rw [if_neg k1, ck_some (by omega)]
    have hk : k.toNat < n.as.length := by omega
    have hG := hn.arc hk
    have c0 := hG.c0; have c1 := hG.c1
    rw [ck_some (inI_small (by omega) (by omega)), ck_some (inI_small (by omega) (by omega))]
    obtain ⟨r, er, r0, r1⟩ := rest_ok (n := by') (m := 10000 - (n.as.getD k.toNat El.d).c + 1) (by omega) (by omega)
    rw [er, bind_some', clone_eq (by omega), bind_some', ck_some (by omega), ck_some (inI_small (by omega) (by omega))]
    have hg := grown_ok hn hk r0 (by omega)
    obtain ⟨g', w, e', _, _, hM'⟩ := of_max hg
    have hv := hM.nonneg hn; have hv2 := hM.le_total hn
    have e2 : most_Of_F ⟨n.n, n.s, n.t, n.as.set k.toNat ⟨(n.as.getD k.toNat El.d).f, (n.as.getD k.toNat El.d).t, (n.as.getD k.toNat El.d).c + r⟩⟩ = some (g', w, 0) := e'
    rw [e2, bind_some']
    dsimp only
    obtain ⟨q1, q2⟩ := grown_max hn hk r0 (by omega) hM hM'
    rw [if_pos rfl, if_pos q1, ck_some (inI_small (by omega) (by omega))]
    exact congrArg some (decide_eq_true q2)
  · obtain ⟨e, he, hc, e1⟩ := of_bad hn
    rw [e1, bind_some']
    dsimp only
    rw [if_pos he, if_neg he]
    rfl
end Go.Proofs.Ytclaacfebgigiaa
