/- CutFull: the law's function answers true. -/
import Derived.Test.YtdpkdicciclobaaPdinic
import Derived.Test.YtdpkdicciclobaaPspread
import Derived.Test.YtdpkdicciclobaaKCutFull
namespace Go.Proofs.Ytdpkdicciclobaa
open Go Go.Proofs.Ytdpkdicciclobaa.Sx
set_option linter.unusedVariables false
set_option linter.unusedSimpArgs false
theorem CutFull_true (n : Net) : weirkeep_CutFull_F n = some true := by
  unfold weirkeep_CutFull_F
  rw [cuts_eq, bind_some', if_neg (by decide)]
  by_cases hn : OkNet n
  · obtain ⟨low, v, e1, hL, hM⟩ := least_ok hn
    obtain ⟨f, w, e2, hf, hw, S, hS, hT⟩ := of_ok hn
    obtain ⟨h, x, r, e3, hD⟩ := level_ok hn
    have hMw : MaxV n w := ⟨⟨f, hf, hw⟩, S, hS, by rw [← hw]; exact (hf.eq_cut hS hT).symm⟩
    obtain ⟨S', hS', hT'⟩ := hD.cut
    have hMx : MaxV n x := ⟨⟨h, hD.flow, hD.val⟩, S', hS', by rw [← hD.val]; exact (hD.flow.eq_cut hS' hT').symm⟩
    have vw := hM.uniq hMw
    have vx := hM.uniq hMx
    subst vw
    subst vx
    rw [e1, bind_some']
    dsimp only
    rw [e2, bind_some']
    dsimp only
    rw [e3, bind_some']
    dsimp only
    rw [if_neg (by decide), if_neg (by decide), if_neg (by decide), if_neg (fun z => z rfl), if_neg (fun z => z rfl), if_neg (by rw [hf.len]; simp), if_neg (by rw [hD.flow.len]; simp)]
    have hmc : MinCut n v (bit low) := ⟨hL.side.cut, hL.cap⟩
    have t1 := hf.minCut_tight hw hmc
    have t2 := hD.flow.minCut_tight hD.val hmc
    rw [forC_all fun k _ hk => ?_, bind_some']
    have hk' : k < n.as.length := by omega
    have G := hn.small hk'
    unfold weirkeep_CutFull_B1
    rw [ck_some G.1, ck_some G.2.2.1, bit_fold, bit_fold]
    have b1 := bit01 low (n.as.getD k El.d).f
    have b2 := bit01 low (n.as.getD k El.d).t
    have kf : k < f.length := by rw [hf.len]; exact hk'
    have kh : k < h.length := by rw [hD.flow.len]; exact hk'
    rcases b1 with b1 | b1
    · rw [if_neg (by omega), if_pos b1]
      rcases b2 with b2 | b2
      · rw [if_neg (by omega)]
      · rw [if_pos b2, ck_some kf, if_neg (fun z => z (t1.inn k hk' b1 b2)), ck_some kh, if_neg (fun z => z (t2.inn k hk' b1 b2))]
    · rw [if_pos b1]
      rcases b2 with b2 | b2
      · rw [if_pos b2, ck_some kf, if_neg (fun z => z (t1.out k hk' b1 b2)), ck_some kh, if_neg (fun z => z (t2.out k hk' b1 b2)), if_neg (by omega)]
      · rw [if_neg (by omega), if_neg (by omega)]
  · obtain ⟨a, ha, a1, a2⟩ := least_bad hn
    obtain ⟨b, hb, b1, b2⟩ := of_bad hn
    obtain ⟨c, hc, c1, c2⟩ := level_bad hn
    have ab : a = b := Option.some.inj (a1.symm.trans b1)
    have bc : b = c := Option.some.inj (b1.symm.trans c1)
    subst ab
    subst bc
    rw [a2, bind_some']
    dsimp only
    rw [b2, bind_some']
    dsimp only
    rw [c2, bind_some']
    dsimp only
    rw [if_pos ha, if_pos rfl]
    simp
end Go.Proofs.Ytdpkdicciclobaa
