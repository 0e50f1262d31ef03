/- PathsLess: the law's function answers true. -/
import Derived.Test.YtlelfifbmckhgaaPpaths
import Derived.Test.YtlelfifbmckhgaaPdel
import Derived.Test.YtlelfifbmckhgaaPless
import Derived.Test.YtlelfifbmckhgaaPturn
import Derived.Test.YtlelfifbmckhgaaKPathsLess
namespace Go.Proofs.Ytlelfifbmckhgaa
open Go Go.Proofs.Ytlelfifbmckhgaa.Sx
set_option linter.unusedVariables false
set_option linter.unusedSimpArgs false
theorem ways_testL : weirkeep_ways_F = some true := by kernel_rfl
theorem unit_del (n : Net) (k : Nat) : unitN (delN n k) = delN (unitN n) k := by
  unfold unitN delN del
  dsimp only
  rw [List.map_append, List.map_take, List.map_drop]
theorem unit_turn (n : Net) : unitN (turnN n) = turnN (unitN n) := by
  unfold unitN turnN
  dsimp only
  rw [List.map_map, List.map_map]
  rfl
theorem PathsLess_true (n : Net) (k : Int) : weirkeep_PathsLess_F n k = some true := by
  unfold weirkeep_PathsLess_F
  rw [ways_testL, bind_some', if_neg (by decide)]
  by_cases hn : OkNet n
  · have hm := hn.g.len
    dsimp only at hm
    obtain ⟨ways, f, v, e1, hM, _, _, hl, _⟩ := apart_ok hn
    rw [e1, bind_some']
    dsimp only
    rw [if_neg (by decide)]
    by_cases c1 : k < 0
    · rw [if_pos c1, if_pos rfl]
    rw [if_neg c1]
    by_cases c2 : ((n.as.length : Nat) : Int) ≤ k
    · rw [if_pos c2, if_pos rfl]
    obtain ⟨k', rfl⟩ : ∃ k' : Nat, k = (k' : Int) := ⟨k.toNat, by omega⟩
    have hk : k' < n.as.length := by omega
    have ek : (((k' : Nat) : Int) + 1).toNat = k' + 1 := by omega
    obtain ⟨ways2, f2, w, e2, hM2, _, _, hl2, _⟩ := apart_ok (del_okN hn hk)
    obtain ⟨ways3, f3, x, e3, hM3, _, _, hl3, _⟩ := apart_ok (ok_turn hn)
    rw [unit_del] at hM2
    rw [unit_turn] at hM3
    have hx := hM3.uniq (max_turn hM)
    have hku : k' < (unitN n).as.length := by unfold unitN; simpa using hk
    have hb := del_less (ok_unit hn) hku hM hM2
    have hc : ((unitN n).as.getD k' El.d).c = 1 := by
      unfold unitN
      dsimp only
      rw [unit_getD _ hk]
      rfl
    rw [hc] at hb
    have hvt := hM.le_total (ok_unit hn)
    have hul : (unitN n).as.length = n.as.length := by unfold unitN; simp
    rw [hul] at hvt
    have hd : (⟨n.n, n.s, n.t, subl n.as 0 k' ++ subl n.as (k' + 1) (n.as.length - (k' + 1))⟩ : Net) = delN n k' := by
      have := less_eq hk
      unfold less at this
      rw [this]
      rfl
    rw [if_neg c2, ck_some (by omega), Int.toNat_natCast, ek, ck_some (by omega), ck_some (inI_small (by omega) (by omega)), ck_some (by omega), ck_some (by omega),
      concat_eq (by rw [subl_length]; omega) (by rw [subl_length]; omega), bind_some', hd, e2, bind_some']
    dsimp only
    rw [turned_ok hn, bind_some', e3, bind_some']
    dsimp only
    simp only [List.length_map]
    rw [if_pos trivial, if_pos trivial, if_pos (by omega), ck_some (inI_small (by omega) (by omega)), if_pos (by omega)]
    exact congrArg some (decide_eq_true (by omega))
  · obtain ⟨e, he, _, h⟩ := apart_bad hn
    rw [h, bind_some']
    dsimp only
    rw [if_pos he, if_neg he]
    rfl
end Go.Proofs.Ytlelfifbmckhgaa
