/- TreeBack: the law's function answers true. -/
import Derived.Test.YtblhoelmodbifaaPcode
import Derived.Test.YtblhoelmodbifaaKTreeBack
namespace Go.Proofs.Ytblhoelmodbifaa
open Go Go.Proofs.Ytblhoelmodbifaa.Sx
set_option linter.unusedVariables false
set_option linter.unusedSimpArgs false
theorem decode_one : tree_Decode_F [1] = some (⟨3, [⟨0, 1, 0⟩, ⟨1, 2, 0⟩]⟩, 0) := by kernel_rfl
theorem arcs_one : weirkeep_arcs_F [(⟨0, 1, 0⟩ : T3), (⟨1, 2, 0⟩ : T3)] = some [⟨0, 1, 0⟩, ⟨1, 2, 0⟩] := by kernel_rfl
theorem equal_one : slices_Equal_Arc_F [⟨0, 1, 0⟩, ⟨1, 2, 0⟩] [⟨0, 1, 0⟩, ⟨1, 2, 0⟩] = some true := by kernel_rfl
theorem reverseA_ok {l : List Arc} (hl : l.length ≤ 100000) : ∃ r, slices_Reverse_Arc_F l = some r ∧ r.length = l.length ∧ ∀ i, i < l.length → r.getD i El.d = l.getD (l.length - 1 - i) El.d := by
  unfold slices_Reverse_Arc_F
  rw [ck_some (inI_small (by omega) (by omega))]
  obtain ⟨q, e, hQ⟩ := loopC_or (f := slices_Reverse_Arc_B1) (fun (τ : List Arc × Nat × Int) => τ.1.length = l.length ∧ τ.2.2 = (l.length : Int) - 1 - τ.2.1 ∧ (τ.2.1 : Int) ≤ τ.2.2 + 1 ∧ ∀ i : Nat, i < l.length → τ.1.getD i El.d = if i < τ.2.1 ∨ l.length - τ.2.1 ≤ i then l.getD (l.length - 1 - i) El.d else l.getD i El.d) (fun q => ∃ σ : List Arc × Nat × Int, q = .go σ ∧ σ.1.length = l.length ∧ ∀ i, i < l.length → σ.1.getD i El.d = l.getD (l.length - 1 - i) El.d) (fun τ => (τ.2.2 - τ.2.1).toNat) (fun τ ⟨h1, h2, h3, h4⟩ => by
    obtain ⟨m, a, b⟩ := τ
    dsimp only at h1 h2 h3 h4
    unfold slices_Reverse_Arc_B1
    dsimp only
    by_cases c : ((a : Nat) : Int) < b
    · rw [if_pos c, ck_some (by omega), ck_some (by omega), ck_some (inI_small (by omega) (by omega)), ck_some (inI_small (by omega) (by omega))]
      refine .inl ⟨_, rfl, ⟨by simpa using h1, by dsimp only; omega, by dsimp only; omega, fun i hi => ?_⟩, by dsimp only; omega⟩
      dsimp only
      have hb : b.toNat = l.length - 1 - a := by omega
      rw [getD_set', getD_set', List.length_set]
      by_cases e1 : i = b.toNat
      · rw [if_pos ⟨e1, by omega⟩, h4 a (by omega), if_neg (by omega), if_pos (by omega)]
        congr 1; omega
      · rw [if_neg (fun z => e1 z.1)]
        by_cases e2 : i = a
        · rw [if_pos ⟨e2, by omega⟩, h4 b.toNat (by omega), if_neg (by omega), if_pos (by omega)]
          congr 1; omega
        · rw [if_neg (fun z => e2 z.1), h4 i hi]
          by_cases e3 : i < a ∨ l.length - a ≤ i
          · rw [if_pos e3, if_pos (by omega)]
          · rw [if_neg e3, if_neg (by omega)]
    · rw [if_neg c]
      refine .inr (.inl ⟨_, rfl, _, rfl, h1, fun i hi => ?_⟩)
      dsimp only
      rw [h4 i hi]
      by_cases e3 : i < a ∨ l.length - a ≤ i
      · rw [if_pos e3]
      · rw [if_neg e3]
        congr 1; omega) (n := 1000000) (s := (l, 0, ((l.length : Nat) : Int) - 1)) ⟨rfl, by dsimp only; omega, by dsimp only; omega, fun i hi => by dsimp only; rw [if_neg (by omega)]⟩ (by dsimp only; omega)
  obtain ⟨σ, rfl, h1, h2⟩ := hQ
  rw [e, bind_some']
  obtain ⟨m, a, b⟩ := σ
  exact ⟨m, rfl, h1, h2⟩
theorem TreeBack_true (l : List Int) (hm : l.length ≤ 17592186044416) : weirkeep_TreeBack_F l = some true := by
  unfold weirkeep_TreeBack_F
  rw [decode_one, bind_some']
  dsimp only
  rw [if_neg (by decide), arcs_one, bind_some', equal_one, bind_some', if_neg (by decide)]
  rcases decode_cases l hm with ⟨hl, G, es, a, b, e, hL, hal, hnd, haG, hbG, hab, a0, b1, honly, hp⟩ | ⟨_, er, he, e⟩
  · have hlen := hl.len
    have hgl := hp.good.1
    rw [e, bind_some']
    dsimp only
    generalize es ++ [(⟨a, b, 0⟩ : Arc)] = A at hp hgl
    rw [if_neg (by decide), code_ok hlen hp (List.Perm.refl _), bind_some']
    dsimp only
    obtain ⟨r, e2, r1, r2⟩ := reverseA_ok (l := A) (by omega)
    have hrev : r = A.reverse := eq_of_getD (d := El.d) (by rw [r1, List.length_reverse]) fun i hi => by
      rw [r2 i (by omega)]
      simp [List.getD_eq_getElem?_getD, show i < A.length by omega, show A.length - 1 - i < A.length by omega]
    have hperm : r.Perm A := by rw [hrev]; exact List.reverse_perm _
    rw [e2, bind_some', ck_some r1, code_ok hlen hp hperm, bind_some']
    dsimp only
    rw [is_ok hlen hp hperm, bind_some']
    dsimp only
    rw [if_pos rfl, if_pos rfl, if_pos rfl, if_pos rfl, equalInts_eq, decide_eq_true rfl, bind_some', if_pos rfl]
    rfl
  · rw [e, bind_some']
    dsimp only
    rw [if_pos he]
    rfl
end Go.Proofs.Ytblhoelmodbifaa
