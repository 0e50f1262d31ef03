/- pushed: a net on its way, by some steps. -/
import Derived.Test.YtgkcmjmofcekmaaPpush2
import Derived.Test.YtgkcmjmofcekmaaPref
import Derived.Test.YtgkcmjmofcekmaaGkeep
namespace Go.Proofs.Ytgkcmjmofcekmaa
open Go Go.Proofs.Ytgkcmjmofcekmaa.Sx
set_option linter.unusedVariables false
set_option linter.unusedSimpArgs false
abbrev PS : Type := Int × Int × Int × List Arc × List Int × List Int × Nat
def asP (σ : PS) : Push := ⟨⟨σ.1, σ.2.1, σ.2.2.1, σ.2.2.2.1⟩, σ.2.2.2.2.1, σ.2.2.2.2.2.1⟩
structure PH (n : Net) (q : Push) : Prop where
  pv : PV n q
  low : ∀ x : Nat, x < n.n.toNat → q.height.getD x 0 < 2 * n.n
theorem push_step {n : Net} (hn : OkNet n) {steps : List Int} (hl : steps.length ≤ maxLen) {j : Nat} (hj : j < steps.length) {σ : PS} (h : PH n (asP σ)) (hc : σ.2.2.2.2.2.2 ≤ j) : ∃ σ', weirkeep_pushed_B1 n steps j σ = some σ' ∧ PH n (asP σ') ∧ σ'.2.2.2.2.2.2 ≤ j + 1 ∧ ∀ x, (asP σ).height.getD x 0 ≤ (asP σ').height.getD x 0 := by
  obtain ⟨a, b, c, L, f, hh, d⟩ := σ
  have n0 := hn.g.n0; have n1 := hn.g.n1; have hlen := hn.g.len
  dsimp only at n0 n1 hlen
  unfold maxLen at hl
  dsimp only at hc
  unfold weirkeep_pushed_B1
  dsimp only
  obtain ⟨r, er, r0, r1⟩ := rest_ok (n := steps.getD j 0) (m := 2 * (n.as.length : Int) + n.n) (by omega) (by omega)
  rw [ck_some (inI_small (by omega) (by omega)), ck_some (inI_small (by omega) (by omega)), er, bind_some']
  have stay : ∀ e : Int, e ≠ 0 → ∃ σ', (if e = 0 then ck (InI ((d : Int) + 1)) <| some ((0, 0, 0, [], [], [], d + 1) : PS) else some (a, b, c, L, f, hh, d)) = some σ' ∧ PH n (asP σ') ∧ σ'.2.2.2.2.2.2 ≤ j + 1 ∧ ∀ x, (asP (a, b, c, L, f, hh, d)).height.getD x 0 ≤ (asP σ').height.getD x 0 := fun e he =>
    ⟨_, if_neg he, h, by dsimp only; omega, fun x => Int.le_refl _⟩
  by_cases q : r < 2 * ((n.as.length : Nat) : Int)
  · rw [if_pos q, ck_some (by
      have h1 := Int.tdiv_nonneg (a := r) (b := 2) r0 (by decide)
      have h2 := Int.tdiv_le_self 2 r0
      unfold InI; omega)]
    rcases send_ok h.pv (Int.tdiv r 2) (decide (Int.tmod r 2 = 1)) with ⟨q', e, hq, hht⟩ | ⟨e, he, e1⟩
    · have e' : push_Send_F ⟨⟨a, b, c, L⟩, f, hh⟩ (Int.tdiv r 2) (decide (Int.tmod r 2 = 1)) = some (q', 0) := e
      rw [e', bind_some', bind_some']
      dsimp only
      rw [if_pos rfl, ck_some (by unfold InI; omega)]
      refine ⟨_, rfl, ⟨hq, fun x hx => ?_⟩, by dsimp only; omega, fun x => ?_⟩
      · have := h.low x hx
        show q'.height.getD x 0 < _
        rw [hht]; exact this
      · show hh.getD x 0 ≤ q'.height.getD x 0
        rw [hht]; exact Int.le_refl _
    · have e' : push_Send_F ⟨⟨a, b, c, L⟩, f, hh⟩ (Int.tdiv r 2) (decide (Int.tmod r 2 = 1)) = _ := e1
      rw [e', bind_some', bind_some']
      dsimp only
      exact stay e he
  · rw [if_neg q, ck_some (inI_small (by omega) (by omega))]
    rcases lift_ok h.pv (r - 2 * ((n.as.length : Nat) : Int)) with ⟨low, e, hq, h1, h2, h3⟩ | ⟨e, he, e1⟩
    · have e' : push_Lift_F ⟨⟨a, b, c, L⟩, f, hh⟩ (r - 2 * ((n.as.length : Nat) : Int)) = _ := e
      have hhl : hh.length = n.n.toNat := h.pv.hl
      rw [e', bind_some', bind_some']
      dsimp only
      rw [if_pos rfl, ck_some (by unfold InI; omega)]
      have key : ∀ x, (hh.set (r - 2 * ((n.as.length : Nat) : Int)).toNat low).getD x 0 = if x = (r - 2 * ((n.as.length : Nat) : Int)).toNat then low else hh.getD x 0 := fun x => by
        rw [getD_set']
        by_cases z : x = (r - 2 * ((n.as.length : Nat) : Int)).toNat
        · rw [if_pos ⟨z, by omega⟩, if_pos z]
        · rw [if_neg (fun y => z y.1), if_neg z]
      refine ⟨_, rfl, ⟨hq, fun x hx => ?_⟩, by dsimp only; omega, fun x => ?_⟩
      · have := h.low x hx
        show (hh.set _ low).getD x 0 < _
        rw [key]
        split
        · exact h3
        · exact this
      · show hh.getD x 0 ≤ (hh.set _ low).getD x 0
        have h1' : hh.getD (r - 2 * ((n.as.length : Nat) : Int)).toNat 0 < low := h1
        rw [key]
        split
        · rename_i z; rw [z]; omega
        · exact Int.le_refl _
    · have e' : push_Lift_F ⟨⟨a, b, c, L⟩, f, hh⟩ (r - 2 * ((n.as.length : Nat) : Int)) = _ := e1
      rw [e', bind_some', bind_some']
      dsimp only
      exact stay e he
def fromP (q : Push) (d : Nat) : PS := (q.net.n, q.net.s, q.net.t, q.net.as, q.flow, q.height, d)
theorem push_steps {n : Net} (hn : OkNet n) {steps : List Int} (hl : steps.length ≤ maxLen) {m k : Nat} (hm : k + m ≤ steps.length) {σ : PS} (h : PH n (asP σ)) (hc : σ.2.2.2.2.2.2 ≤ k) : ∃ σ', forN (weirkeep_pushed_B1 n steps) m k σ = some σ' ∧ PH n (asP σ') ∧ σ'.2.2.2.2.2.2 ≤ k + m ∧ ∀ x, (asP σ).height.getD x 0 ≤ (asP σ').height.getD x 0 := by
  obtain ⟨σ', e, h1, h2, h3⟩ := forN_inv (f := weirkeep_pushed_B1 n steps) (fun j σ' => PH n (asP σ') ∧ σ'.2.2.2.2.2.2 ≤ j ∧ ∀ x, (asP σ).height.getD x 0 ≤ (asP σ').height.getD x 0) (n := m) (k := k) (s := σ) ⟨h, hc, fun x => Int.le_refl _⟩ fun j τ hj1 hj2 ⟨i1, i2, i3⟩ => by
    obtain ⟨τ', e, p1, p2, p3⟩ := push_step hn hl (show j < steps.length by omega) i1 i2
    exact ⟨τ', e, p1, p2, fun x => Int.le_trans (i3 x) (p3 x)⟩
  exact ⟨σ', e, h1, h2, h3⟩
theorem new_ph {n : Net} (hn : OkNet n) : ∃ q, push_New_F n = some (q, 0) ∧ PH n q := by
  have n0 := hn.g.n0; have n1 := hn.g.n1; have s0 := hn.s0; have s1 := hn.s1
  dsimp only at n0 n1
  obtain ⟨q, e, h⟩ := new_ok hn
  refine ⟨q, e, h, fun x hx => ?_⟩
  -- the heights at the begin
  unfold push_New_F at e
  have hc : graph_CheckNet_F n = some 0 := by
    rcases checkNet_cases n with ⟨_, e⟩ | ⟨z, _⟩
    · exact e
    · exact absurd hn z
  have hl := hn.g.len
  dsimp only at hl
  rw [hc, bind_some', if_neg (by decide), clone_eq (by omega), bind_some', ck_some (by omega), ck_some (by omega), ck_some (by omega)] at e
  cases hF : forN (push_New_B1 n n.as) n.as.length 0 (List.replicate ((n.as.length : Nat) : Int).toNat (0 : Int)) with
  | none => rw [hF] at e; cases e
  | some f =>
    rw [hF, bind_some'] at e
    have e2 := Option.some.inj e
    have e3 : q = ⟨⟨n.n, n.s, n.t, n.as⟩, f, (List.replicate n.n.toNat (0 : Int)).set n.s.toNat n.n⟩ := (congrArg Prod.fst e2).symm
    rw [e3]
    dsimp only
    rw [getD_set', getD_replicate']
    split <;> first | omega | (split <;> omega)
theorem pushed_ok {n : Net} (hn : OkNet n) {steps : List Int} (hl : steps.length ≤ maxLen) : ∃ q d, weirkeep_pushed_F n steps = some (q, d, true) ∧ PH n q := by
  obtain ⟨q, e, h⟩ := new_ph hn
  obtain ⟨σ', e2, h1, _, _⟩ := push_steps hn hl (m := steps.length) (k := 0) (by omega) (σ := fromP q 0) h (Nat.le_refl _)
  unfold weirkeep_pushed_F
  rw [e, bind_some']
  dsimp only
  rw [if_neg (by decide)]
  have e2' : forN (weirkeep_pushed_B1 n steps) steps.length 0 (q.net.n, q.net.s, q.net.t, q.net.as, q.flow, q.height, 0) = some σ' := e2
  rw [e2', bind_some']
  exact ⟨_, _, rfl, h1⟩
theorem pushed_bad {n : Net} (hn : ¬ OkNet n) (steps : List Int) : ∃ q d, weirkeep_pushed_F n steps = some (q, d, false) := by
  obtain ⟨e, he, h⟩ := new_bad hn
  unfold weirkeep_pushed_F
  rw [h, bind_some']
  dsimp only
  rw [if_pos he]
  exact ⟨_, _, rfl⟩
end Go.Proofs.Ytgkcmjmofcekmaa
