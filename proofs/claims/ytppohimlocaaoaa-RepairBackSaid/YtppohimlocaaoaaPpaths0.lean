/- Pieces of a flow: what they have on an arc. -/
import Derived.Test.YtppohimlocaaoaaPsplit
namespace Go.Proofs.Ytppohimlocaaoaa
open Go Go.Proofs.Ytppohimlocaaoaa.Sx
set_option linter.unusedVariables false
set_option linter.unusedSimpArgs false
theorem amtL_ge {ps : List Piece} (h : ∀ p, p ∈ ps → 1 ≤ p.amount) (k : Nat) : 0 ≤ amtL ps k ∧ ∀ p, p ∈ ps → p.amount * inA p.arcs k ≤ amtL ps k := by
  induction ps with
  | nil => exact ⟨Int.le_refl _, fun p hp => by cases hp⟩
  | cons q ps ih =>
    obtain ⟨i1, i2⟩ := ih fun p hp => h p (List.mem_cons_of_mem _ hp)
    have hq := h q (List.mem_cons_self ..)
    have h0 := Int.mul_nonneg (a := q.amount) (b := inA q.arcs k) (by omega) (inA01 _ _).1
    refine ⟨by simp only [amtL]; omega, fun p hp => ?_⟩
    simp only [amtL]
    rcases List.mem_cons.1 hp with rfl | hp
    · omega
    · have := i2 p hp; omega
theorem valL_ones {ps : List Piece} (h : ∀ p, p ∈ ps → p.amount = 1) : valL ps = (ps.length : Int) := by
  induction ps with
  | nil => rfl
  | cons q ps ih =>
    have := ih fun p hp => h p (List.mem_cons_of_mem _ hp)
    have := h q (List.mem_cons_self ..)
    simp only [valL, List.length_cons]
    omega
theorem inA_of {arcs : List Int} {i : Nat} (hi : i < arcs.length) (h0 : 0 ≤ arcs.getD i 0) : inA arcs (arcs.getD i 0).toNat = 1 := by
  unfold inA
  rw [if_pos]
  rw [show (((arcs.getD i 0).toNat : Nat) : Int) = arcs.getD i 0 by omega]
  exact mem_getD hi
/-- what is on an arc of a way is at least what the way takes -/
theorem SplitOk.on {n : Net} {f : List Int} {ways rounds : List Piece} (h : SplitOk n f ways rounds) {p : Piece} (hp : p ∈ ways) {i : Nat} (hi : i < p.arcs.length) : p.amount ≤ f.getD (p.arcs.getD i 0).toNat 0 := by
  have hP := h.ws p hp
  have hr := hP.ch.rg i hi
  have a := amtL_ge (ps := ways) (fun q hq => (h.ws q hq).a1) (p.arcs.getD i 0).toNat
  have b := amtL_ge (ps := rounds) (fun q hq => by obtain ⟨b, hb⟩ := h.rs q hq; exact hb.a1) (p.arcs.getD i 0).toNat
  have c := a.2 p hp
  rw [inA_of hi hr.1, Int.mul_one] at c
  rw [h.sum _ (by omega)]
  omega
end Go.Proofs.Ytppohimlocaaoaa
