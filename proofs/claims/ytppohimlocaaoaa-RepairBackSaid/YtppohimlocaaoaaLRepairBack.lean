/- RepairBack: the law's function answers true. -/
import Derived.Test.YtppohimlocaaoaaPrepair
import Derived.Test.YtppohimlocaaoaaPref
import Derived.Test.YtppohimlocaaoaaKRepairBack
namespace Go.Proofs.Ytppohimlocaaoaa
open Go Go.Proofs.Ytppohimlocaaoaa.Sx
set_option linter.unusedVariables false
set_option linter.unusedSimpArgs false
theorem repairs_ok : weirkeep_repairs_F = some true := by kernel_rfl
theorem cap_back {n : Net} {k : Nat} (hk : k < n.as.length) (c : Int) : capN (capN n k c) k (n.as.getD k El.d).c = n := by
  have e : (capN (capN n k c) k (n.as.getD k El.d).c).as = n.as := eq_of_getD (d := El.d) (by rw [cap_len, cap_len]) fun i hi => by
    rw [cap_len, cap_len] at hi
    obtain ⟨a1, a2, a3⟩ := cap_arc (n := capN n k c) (c := (n.as.getD k El.d).c) (by rw [cap_len]; exact hk) i
    obtain ⟨b1, b2, b3⟩ := cap_arc (n := n) (c := c) hk i
    refine arc_ext.1 ⟨by rw [a1, b1], by rw [a2, b2], ?_⟩
    rw [a3, b3]
    by_cases e : i = k
    · rw [if_pos e, e]
    · rw [if_neg e, if_neg e]
  cases n
  unfold capN at e ⊢
  dsimp only at e ⊢
  rw [e]
theorem RepairBack_true (n : Net) (k takes : Int) : weirkeep_RepairBack_F n k takes = some true := by
  unfold weirkeep_RepairBack_F
  rw [repairs_ok, bind_some', if_neg (by decide)]
  by_cases hn : OkNet n
  · have hm := hn.g.len
    dsimp only at hm
    obtain ⟨f, v, e, hf, hv, hM⟩ := of_max hn
    rw [e, bind_some']
    dsimp only
    rw [if_neg (by decide)]
    by_cases c1 : k < 0
    · rw [if_pos c1, if_pos rfl]
    rw [if_neg c1]
    by_cases c2 : ((n.as.length : Nat) : Int) ≤ k
    · rw [if_pos c2, if_pos rfl]
    rw [if_neg c2]
    obtain ⟨r, er, r0, r1⟩ := rest_ok (n := takes) (m := 10001) (by decide) (by decide)
    obtain ⟨k', rfl⟩ : ∃ k' : Nat, k = (k' : Int) := ⟨k.toNat, by omega⟩
    have hk : k' < n.as.length := by omega
    have hG := hn.arc hk
    have g0 := hG.c0; have g1 := hG.c1
    subst hv
    obtain ⟨g, w, e1, h1, h2, h3⟩ := repair_cap hf hM hk (takes := r) r0 (by omega)
    obtain ⟨o, x, e2, h4, h5, h6⟩ := repair_cap h1 (by rw [show netAt (capN n k' r).as g (capN n k' r).s = w from h2]; exact h3) (k := k') (by rw [cap_len]; exact hk) (takes := (n.as.getD k' El.d).c) g0 g1
    rw [cap_back hk r] at e2 h6
    have hx := h6.uniq hM
    have hb := cap_max hk hM h3
    have vb := hf.value_le n.s
    rw [er, bind_some', e1, bind_some']
    dsimp only
    rw [ck_some (by omega), Int.toNat_natCast, e2, bind_some']
    dsimp only
    rw [ck_some (inI_small (by omega) (by omega)), if_pos rfl, if_pos rfl, if_pos rfl, equalArcs_eq, bind_some', if_pos (decide_eq_true rfl), if_pos hx, ck_some (inI_small (by omega) (by omega)), if_pos hb.1, ck_some (inI_small (by omega) (by omega))]
    exact congrArg some (decide_eq_true hb.2)
  · obtain ⟨e, he, _, h⟩ := of_bad hn
    rw [h, bind_some']
    dsimp only
    rw [if_pos he, if_neg he]
    rfl
end Go.Proofs.Ytppohimlocaaoaa
