/- FlowOwn: the law's function answers true. -/
import Derived.Test.YtlpelkfcmeapiaaPsplit
import Derived.Test.YtlpelkfcmeapiaaPmore
import Derived.Test.YtlpelkfcmeapiaaKFlowOwn
namespace Go.Proofs.Ytlpelkfcmeapiaa
open Go Go.Proofs.Ytlpelkfcmeapiaa.Sx
set_option linter.unusedVariables false
set_option linter.unusedSimpArgs false
theorem more_test : (weirkeep_weir_F.bind fun r2 => (most_More_F r2 ([0, 0, 0, 0, 0] : List Int)).bind fun (r : List Int × Int × Int) => some (decide (r.2.2 = 0 ∧ r.1.length = 5))) = some true := by kernel_rfl
theorem more_weir : ∃ w g v, weirkeep_weir_F = some w ∧ most_More_F w ([0, 0, 0, 0, 0] : List Int) = some (g, v, 0) ∧ g.length = 5 := by
  obtain ⟨w, e1, h⟩ := bind_l more_test
  obtain ⟨⟨g, v, e⟩, e2, h⟩ := bind_l h
  have h := of_decide_eq_true (Option.some.inj h)
  dsimp only at h
  obtain ⟨rfl, h2⟩ := h
  exact ⟨w, g, v, e1, e2, h2⟩
theorem cloneFA {l : List Arc} (h : l.length + 1 ≤ 5864062014805) : slices_Clone_Arc_F l = some l := by
  unfold slices_Clone_Arc_F
  rw [ck_some (by omega)]; rfl
theorem cloneFI {l : List Int} (h : l.length ≤ 17592186044416) : slices_Clone_int_F l = some l := by
  unfold slices_Clone_int_F
  rw [ck_some (by omega)]; rfl
theorem concatP {l m : List Piece} (hl : l.length ≤ 600000) (hm : m.length ≤ 600000) : slices_Concat_Piece_F [l, m] = some (l ++ m) := by
  unfold slices_Concat_Piece_F
  have e1 : forN (slices_Concat_Piece_B1 [l, m]) [l, m].length 0 0 = some (l.length + m.length) := by
    simp only [List.length_cons, List.length_nil, forN, slices_Concat_Piece_B1, List.getD_eq_getElem?_getD, List.getElem?_cons_zero, List.getElem?_cons_succ, Option.getD_some, Nat.zero_add]
    rw [ck_some (by unfold InI; omega), if_neg (by omega), bind_some', ck_some (by unfold InI; omega), if_neg (by omega), bind_some']
  have e2 : slices_Grow_Piece_F (((l.length + m.length : Nat)) : Int) = some [] := by
    unfold slices_Grow_Piece_F
    rw [if_neg (by omega), bind_some', ck_some (by unfold InI; omega), ck_some (by unfold InI; omega)]
    by_cases c : 0 < (((l.length + m.length : Nat) : Int) - (0 - 0))
    · rw [if_pos c, ck_some ⟨by omega, by omega⟩]; rfl
    · rw [if_neg c]
  rw [e1, bind_some', e2, bind_some']
  have e3 : forN (slices_Concat_Piece_B2 [l, m]) [l, m].length 0 [] = some (l ++ m) := by
    simp only [List.length_cons, List.length_nil, forN, slices_Concat_Piece_B2, List.getD_eq_getElem?_getD, List.getElem?_cons_zero, List.getElem?_cons_succ, Option.getD_some, List.nil_append, Nat.zero_add]
    rw [ck_some (by omega), bind_some', ck_some (by omega), bind_some']
  rw [e3, bind_some']
theorem FlowOwn_true (n : Net) (f : List Int) (hz : n.as.length + 1 ≤ 5864062014805) (hf : f.length ≤ 17592186044416) : weirkeep_FlowOwn_F n f = some true := by
  obtain ⟨w, g, v, e1, e2, e3⟩ := more_weir
  unfold weirkeep_FlowOwn_F
  rw [e1, bind_some', e2, bind_some']
  dsimp only
  rw [if_neg (by decide), if_neg (by rw [e3]; decide), cloneFI hf, bind_some', cloneFA hz, bind_some']
  by_cases hfl : Flow n f ∧ 0 ≤ netAt n.as f n.s
  · obtain ⟨ways, rounds, s1, s2⟩ := split_ok hfl.1 hfl.2
    obtain ⟨h, u, m1, m2, _⟩ := more_ok hfl.1
    rw [s1, bind_some']
    dsimp only
    rw [if_neg (by decide), m1, bind_some']
    dsimp only
    rw [concatP s2.cw s2.cr, bind_some']
    obtain ⟨s, hs, _⟩ := forN_inv (f := weirkeep_FlowOwn_B1 (ways ++ rounds)) (fun _ _ => True) (n := (ways ++ rounds).length) (k := 0) (s := ()) trivial fun j s _ _ _ => ⟨(), rfl, trivial⟩
    rw [hs, bind_some']
    rw [show weirkeep_spoil_int_F h (-1) = some () from rfl, bind_some', equalInts_eq, bind_some', if_neg (by simp), equalArcs_eq, bind_some', if_neg (by simp), bind_some']
    dsimp only
    rw [if_pos rfl, if_pos rfl, contains_eq, bind_some', decide_eq_false (fun hc => by
      obtain ⟨k, hk, e⟩ := getD_of_mem (d := 0) hc
      have := (m2.r k hk).1
      omega)]
    rfl
  · obtain ⟨e, he, s1⟩ := split_bad hfl
    rw [s1, bind_some']
    dsimp only
    rw [if_pos he, equalInts_eq, bind_some', decide_eq_true rfl]
end Go.Proofs.Ytlpelkfcmeapiaa
