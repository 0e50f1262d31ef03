/- GaleSums: the law's function answers true. -/
import Derived.Test.YtlelfifbmckhgaaPgale
import Derived.Test.YtlelfifbmckhgaaKGaleSums
namespace Go.Proofs.Ytlelfifbmckhgaa
open Go Go.Proofs.Ytlelfifbmckhgaa.Sx
set_option linter.unusedVariables false
set_option linter.unusedSimpArgs false
theorem gales_ok : weirkeep_gales_F = some true := by kernel_rfl
theorem wrap_tableG : ∀ m : Fin 65536, IntKind.i64.wrap ((m.val : Nat) : Int) = ((m.val : Nat) : Int) := fun m => by
  have := m.isLt
  unfold IntKind.wrap
  have h2 : (2 : Int) ^ (64 - 1) = 9223372036854775808 := by decide
  have h3 : (2 : Int) ^ 64 = 18446744073709551616 := by decide
  simp only [IntKind.bits, IntKind.signed, Bool.true_and, decide_eq_true_eq, h2, h3]
  split <;> omega
theorem pow_tableG : ∀ n : Fin 13, IntKind.i64.wrap (1 * 2 ^ min n.val 64) = 2 ^ n.val := by decide +kernel
theorem GaleSums_true (rows cols : List Int) : weirkeep_GaleSums_F rows cols = some true := by
  unfold weirkeep_GaleSums_F
  rw [gales_ok, bind_some', if_neg (by decide)]
  rcases make_gale rows cols with ⟨e, he, h⟩ | ⟨hg, out, h, hl, hr, hc⟩
  · rw [h, bind_some']
    dsimp only
    rw [if_pos he]
    rfl
  · have hc12 := hg.c
    rw [h, bind_some']
    dsimp only
    rw [if_neg (by decide), forC_all fun j _ hj => ?_, bind_some']
    · dsimp only
      rw [forC_all fun k _ hk => ?_, bind_some']
      · dsimp only
        exact congrArg some (decide_eq_true (by omega))
      · have hk' : k < cols.length := by omega
        have b : ∀ j, 0 ≤ tot (fun i => bit (out.getD i El.d).v (k : Int)) j ∧ tot (fun i => bit (out.getD i El.d).v (k : Int)) j ≤ j := fun j => by
          induction j with
          | zero => exact ⟨Int.le_refl _, Int.le_refl _⟩
          | succ j ih =>
            have := bit01 (out.getD j El.d).v (k : Int)
            rw [tot]; omega
        obtain ⟨x, e, hx⟩ := forN_inv (f := weirkeep_GaleSums_B3 out k) (fun j s => s = tot (fun i => bit (out.getD i El.d).v (k : Int)) j) (n := out.length) (k := 0) (s := 0) rfl fun j s _ hj hI => by
          subst hI
          have hr12 := hg.r
          have := b j
          have h01 := bit01 (out.getD j El.d).v (k : Int)
          have hw : IntKind.i64.wrap (bitsOf .and .u16 (Int.fdiv ((out.getD j El.d).v) (2 ^ min k 16)) 1) = bit (out.getD j El.d).v (k : Int) := by
            have e1 : bitsOf .and .u16 (Int.fdiv ((out.getD j El.d).v) (2 ^ min k 16)) 1 = bit (out.getD j El.d).v (k : Int) := by unfold bit; rw [Int.toNat_natCast]
            rw [e1]
            rcases h01 with q | q <;> rw [q] <;> rfl
          unfold weirkeep_GaleSums_B3
          rw [hw, ck_some (inI_small (by omega) (by omega))]
          exact ⟨_, rfl, rfl⟩
        unfold weirkeep_GaleSums_B2
        rw [e, bind_some', if_neg]
        rw [hx, Nat.zero_add, hl, hc k hk']
        exact fun z => z rfl
    · have hj' : j < rows.length := by omega
      obtain ⟨r1, r2⟩ := hr j hj'
      have rg := fdiv_zero.1 r2
      have p16 := pow_le16 (k := cols.length) (by omega)
      have hw : IntKind.i64.wrap (out.getD j El.d).v = (out.getD j El.d).v := by
        have := wrap_tableG ⟨(out.getD j El.d).v.toNat, by omega⟩
        dsimp only at this
        rw [Int.toNat_of_nonneg rg.1] at this
        exact this
      have hp := pow_tableG ⟨cols.length, by omega⟩
      dsimp only at hp
      unfold weirkeep_GaleSums_B1
      rw [if_neg (by omega), ck_some hj', hw, ones_ok, bind_some', if_neg (fun z => z r1), hp, if_neg (by omega)]
end Go.Proofs.Ytlelfifbmckhgaa
