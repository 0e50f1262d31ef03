/- DegreeGallai: the law's function answers true. -/
import Derived.Test.YthgjamhcnaamdaaPdeg
import Derived.Test.YthgjamhcnaamdaaPones
import Derived.Test.YthgjamhcnaamdaaKDegreeGallai
namespace Go.Proofs.Ythgjamhcnaamdaa
open Go Go.Proofs.Ythgjamhcnaamdaa.Sx
set_option linter.unusedVariables false
set_option linter.unusedSimpArgs false
theorem degreesG_ok : weirkeep_degrees_F = some true := by kernel_rfl
theorem sumD_small {l : List Int} (hl : l.length ≤ 12) (h : ∀ i, i < l.length → 0 ≤ l.getD i 0 ∧ l.getD i 0 ≤ 12) : weirkeep_sum_F l = some (tot (fun i => l.getD i 0) l.length) ∧ 0 ≤ tot (fun i => l.getD i 0) l.length := by
  have b : ∀ j, j ≤ l.length → 0 ≤ tot (fun i => l.getD i 0) j ∧ tot (fun i => l.getD i 0) j ≤ 12 * j := fun j => by
    induction j with
    | zero => intro _; exact ⟨Int.le_refl _, by simp [tot]⟩
    | succ j ih =>
      intro hj
      have := ih (by omega)
      have := h j (by omega)
      rw [tot]; omega
  refine ⟨?_, (b l.length (Nat.le_refl _)).1⟩
  unfold weirkeep_sum_F
  rw [sum_loop (f := weirkeep_sum_B1 l) l (fun k x => rfl) fun j hj => by
    have := b j hj
    exact inI_small (by omega) (by omega)]
  rfl
theorem DegreeGallai_true (l : List Int) (set_ : Int) : weirkeep_DegreeGallai_F l set_ = some true := by
  unfold weirkeep_DegreeGallai_F
  rw [degreesG_ok, bind_some', if_neg (by decide)]
  rcases can_cases l with ⟨hg, b, e, hb⟩ | ⟨_, er, he, e⟩
  · rw [e, bind_some']
    dsimp only
    rw [if_neg (by decide)]
    cases b with
    | false => rfl
    | true =>
      have hl := hg.len
      rw [if_neg (by decide)]
      obtain ⟨g, h1, h2⟩ := hb.1 rfl
      have hS : ∀ i : Nat, bit set_ (i : Int) = 0 ∨ bit set_ (i : Int) = 1 := fun i => bit01 set_ _
      have hk : weirref_Ones_F (IntKind.i64.wrap (bitsOf .and .u16 set_ (IntKind.u16.wrap ((IntKind.u16.wrap (1 * 2 ^ min l.length 16)) - 1)))) = some (tot (fun i => bit set_ (i : Int)) l.length) := by
        have hm : IntKind.u16.wrap ((IntKind.u16.wrap (1 * 2 ^ min l.length 16)) - 1) = mask (l.length : Int) := by unfold mask; rw [Int.toNat_natCast]
        rw [hm, onesI_ok]
        congr 1
        unfold onesG
        have := tot_split (fun k => bit (bitsOf .and .u16 set_ (mask (l.length : Int))) (k : Int)) l.length (16 - l.length)
        rw [show l.length + (16 - l.length) = 16 by omega] at this
        rw [this, tot_zero (f := fun i => bit (bitsOf .and .u16 set_ (mask (l.length : Int))) ((l.length + i : Nat) : Int)) fun i hi => ?_, Int.add_zero]
        · refine tot_congr fun i hi => ?_
          have a := bit_and set_ (mask (l.length : Int)) (x := (i : Int)) (by omega) (by omega)
          rw [bit_mask (by omega) (by omega)] at a
          have b1 := bit01 (bitsOf .and .u16 set_ (mask (l.length : Int))) (i : Int)
          have b2 := hS i
          omega
        · have a := bit_and set_ (mask (l.length : Int)) (x := ((l.length + i : Nat) : Int)) (by omega) (by omega)
          rw [bit_mask (by omega) (by omega)] at a
          have b1 := bit01 (bitsOf .and .u16 set_ (mask (l.length : Int))) ((l.length + i : Nat) : Int)
          omega
      have hk0 : 0 ≤ tot (fun i => bit set_ (i : Int)) l.length := tot_nonneg fun i _ => by have := hS i; omega
      have hk1 : tot (fun i => bit set_ (i : Int)) l.length ≤ l.length := by
        have := tot_le (f := fun i => bit set_ (i : Int)) (g := fun _ => 1) (n := l.length) fun i _ => by have := hS i; omega
        rw [tot_const] at this; omega
      rw [hk, bind_some']
      generalize hK : tot (fun i => bit set_ (i : Int)) l.length = K at hk0 hk1
      have hm1 : K * (K - 1) ≤ 12 * 12 := by
        by_cases z : K = 0
        · rw [z]; decide
        · exact Int.mul_le_mul (by omega) (by omega) (by omega) (by omega)
      have hm0 : 0 ≤ K * (K - 1) := by
        by_cases z : K = 0
        · rw [z]; decide
        · exact Int.mul_nonneg (by omega) (by omega)
      rw [ck_some (inI_small (by omega) (by omega)), ck_some (inI_small (by omega) (by omega))]
      have hrr : ∀ i, i < l.length → 0 ≤ l.getD i 0 ∧ l.getD i 0 ≤ 12 := fun i hi => by have := hg.r i hi; omega
      have hba : ∀ j, j ≤ l.length → 0 ≤ tot (fun i => bit set_ (i : Int) * l.getD i 0) j ∧ tot (fun i => bit set_ (i : Int) * l.getD i 0) j ≤ 12 * j := fun j => by
        induction j with
        | zero => intro _; exact ⟨Int.le_refl _, by simp [tot]⟩
        | succ j ih =>
          intro hj
          have := ih (by omega)
          have := hrr j (by omega)
          rw [tot]
          rcases hS j with z | z <;> rw [z] <;> omega
      have hbb : ∀ j, j ≤ l.length → 0 ≤ tot (fun i => (1 - bit set_ (i : Int)) * min (l.getD i 0) K) j ∧ tot (fun i => (1 - bit set_ (i : Int)) * min (l.getD i 0) K) j ≤ 12 * j := fun j => by
        induction j with
        | zero => intro _; exact ⟨Int.le_refl _, by simp [tot]⟩
        | succ j ih =>
          intro hj
          have := ih (by omega)
          have := hrr j (by omega)
          rw [tot]
          rcases hS j with z | z <;> rw [z] <;> omega
      obtain ⟨⟨x, y⟩, e2, q1, q2⟩ := forN_inv (f := weirkeep_DegreeGallai_B1 l set_ K) (fun j σ => σ.1 = tot (fun i => bit set_ (i : Int) * l.getD i 0) j ∧ σ.2 = K * (K - 1) + tot (fun i => (1 - bit set_ (i : Int)) * min (l.getD i 0) K) j) (n := l.length) (k := 0) (s := (0, K * (K - 1))) ⟨rfl, by rw [tot, Int.add_zero]⟩ fun j σ _ hj ⟨i1, i2⟩ => by
        obtain ⟨x, y⟩ := σ
        dsimp only at i1 i2
        have a1 := hba j (by omega)
        have a2 := hbb j (by omega)
        have a3 := hrr j (by omega)
        have ebit : bitsOf .and .u16 (Int.fdiv set_ (2 ^ min j 16)) 1 = bit set_ (j : Int) := by rw [← bit_fold, Int.toNat_natCast]
        have e1 : tot (fun i => bit set_ (i : Int) * l.getD i 0) (j + 1) = tot (fun i => bit set_ (i : Int) * l.getD i 0) j + bit set_ (j : Int) * l.getD j 0 := rfl
        have e2 : tot (fun i => (1 - bit set_ (i : Int)) * min (l.getD i 0) K) (j + 1) = tot (fun i => (1 - bit set_ (i : Int)) * min (l.getD i 0) K) j + (1 - bit set_ (j : Int)) * min (l.getD j 0) K := rfl
        unfold weirkeep_DegreeGallai_B1
        dsimp only
        rw [ebit]
        rcases hS j with z | z
        · rw [z] at e1 e2
          rw [z, if_neg (by decide), ck_some (inI_small (by omega) (by omega))]
          exact ⟨_, rfl, by show x = _; omega, by show y + min (l.getD j 0) K = _; omega⟩
        · rw [z] at e1 e2
          rw [z, if_pos rfl, ck_some (inI_small (by omega) (by omega))]
          exact ⟨_, rfl, by show x + l.getD j 0 = _; omega, by show y = _; omega⟩
      rw [Nat.zero_add] at q1 q2
      dsimp only at q1 q2
      obtain ⟨es, hs0⟩ := sumD_small hl hrr
      rw [e2, bind_some']
      dsimp only
      rw [es, bind_some']
      have hev := hand_shake h1 l.length
      rw [tot_congr (g := fun i => l.getD i 0) fun i hi => h2 i hi] at hev
      rw [if_pos (by rw [Int.tmod_eq_emod_of_nonneg hs0]; exact hev)]
      have main := graph_asks (n := l.length) h1 (fun i => bit set_ (i : Int)) hS
      rw [hK, tot_congr (f := fun i => bit set_ (i : Int) * dg g l.length i) (g := fun i => bit set_ (i : Int) * l.getD i 0) fun i hi => by rw [h2 i hi], tot_congr (f := fun j => (1 - bit set_ (j : Int)) * min (dg g l.length j) K) (g := fun i => (1 - bit set_ (i : Int)) * min (l.getD i 0) K) fun i hi => by rw [h2 i hi]] at main
      congr 1
      exact decide_eq_true (by rw [q1, q2]; exact main)
  · rw [e, bind_some']
    dsimp only
    rw [if_pos he, if_neg he]
    rfl
end Go.Proofs.Ythgjamhcnaamdaa
