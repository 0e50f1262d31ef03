/- Package cut: Cap. -/
import Derived.Test.YtfnldmbomampiaaPmore
import Derived.Test.YtfnldmbomampiaaPbits
import Derived.Test.YtfnldmbomampiaaGcut
import Derived.Test.YtfnldmbomampiaaGkeep
namespace Go.Proofs.Ytfnldmbomampiaa
open Go Go.Proofs.Ytfnldmbomampiaa.Sx
set_option linter.unusedVariables false
set_option linter.unusedSimpArgs false
/-- side tells a side of a net -/
structure Side (n : Net) (side : Int) : Prop where
  net : OkNet n
  hi : Int.fdiv side (2 ^ min n.n.toNat 16) = 0
  s : bit side n.s = 1
  t : bit side n.t = 0
theorem Side.cut {n : Net} {side : Int} (h : Side n side) : Cut n (bit side) := ⟨h.s, h.t, bit01 side⟩
theorem cap_cases (n : Net) (side : Int) : (Side n side ∧ cut_Cap_F n side = some (capS n.as (bit side), 0)) ∨ (¬ Side n side ∧ ∃ e, e ≠ 0 ∧ cut_Cap_F n side = some (0, e)) := by
  unfold cut_Cap_F
  simp only [bit_fold]
  rcases checkNet_cases n with ⟨hn, h1⟩ | ⟨hn, e, he, h1⟩
  · have n0 := hn.g.n0; have s0 := hn.s0; have t0 := hn.t0; have hlen := hn.g.len
    dsimp only at n0 hlen
    rw [h1, bind_some', if_neg (by decide), ck_some (by omega)]
    by_cases h2 : Int.fdiv side (2 ^ min n.n.toNat 16) = 0
    · rw [if_neg (by simpa using h2), ck_some s0]
      by_cases h3 : bit side n.s = 0
      · rw [if_pos h3]; exact .inr ⟨fun h => by have := h.s; omega, 3, by decide, rfl⟩
      · rw [if_neg h3, ck_some t0]
        by_cases h4 : bit side n.t = 1
        · rw [if_pos h4]; exact .inr ⟨fun h => by have := h.t; omega, 3, by decide, rfl⟩
        · rw [if_neg h4]
          have hs := (bit01 side n.s).resolve_left h3
          have ht := (bit01 side n.t).resolve_right h4
          obtain ⟨x, e, hx⟩ := forN_inv (f := cut_Cap_B1 n side) (fun j x => x = tot (cross n.as (bit side)) j) (n := n.as.length) (k := 0) (s := 0) rfl fun j x _ hj hx => by
            have hj' : j < n.as.length := by omega
            have hG := hn.arc hj'
            have f0 := hG.f0; have u0 := hG.t0; have c0 := hG.c0; have c1 := hG.c1
            have hb := tot_abs (f := cross n.as (bit side)) (M := 10000) (n := j) fun i hi => by
              have := (hn.arc (k := i) (by omega)).c0; have := (hn.arc (k := i) (by omega)).c1
              unfold cross; split <;> omega
            rw [← hx] at hb
            refine ⟨_, ?_, rfl⟩
            unfold cut_Cap_B1
            show ck _ (if bit side (n.as.getD j El.d).f = 1 then ck _ (if bit side (n.as.getD j El.d).t = 0 then _ else _) else _) = _
            rw [ck_some f0, tot, ← hx, cross]
            by_cases q1 : bit side (n.as.getD j El.d).f = 1
            · rw [if_pos q1, ck_some u0]
              by_cases q2 : bit side (n.as.getD j El.d).t = 0
              · rw [if_pos q2, if_pos ⟨q1, q2⟩, ck_some (inI_small (by omega) (by omega))]
              · rw [if_neg q2, if_neg (fun h => q2 h.2), Int.add_zero]
            · rw [if_neg q1, if_neg (fun h => q1 h.1), Int.add_zero]
          left
          refine ⟨⟨hn, h2, hs, ht⟩, ?_⟩
          rw [e, bind_some', hx, Nat.zero_add]
          rfl
    · rw [if_pos h2]; exact .inr ⟨fun h => h2 h.hi, 3, by decide, rfl⟩
  · rw [h1, bind_some', if_pos he]
    exact .inr ⟨fun h => hn h.net, e, he, rfl⟩
theorem cap_ok {n : Net} {side : Int} (h : Side n side) : cut_Cap_F n side = some (capS n.as (bit side), 0) := by
  rcases cap_cases n side with ⟨_, e⟩ | ⟨h1, _⟩
  · exact e
  · exact absurd h h1
theorem cap_bad {n : Net} {side : Int} (h : ¬ Side n side) : ∃ e, e ≠ 0 ∧ cut_Cap_F n side = some (0, e) := by
  rcases cap_cases n side with ⟨h1, _⟩ | ⟨_, e⟩
  · exact absurd h1 h
  · exact e
end Go.Proofs.Ytfnldmbomampiaa
