/- TablesOwn: the law's function answers true, of lists that are not too long. -/
import Derived.Test.YtlpelkfcmeapiaaPassign
import Derived.Test.YtlpelkfcmeapiaaPdsplit
import Derived.Test.YtlpelkfcmeapiaaPgis
import Derived.Test.YtlpelkfcmeapiaaPmade
import Derived.Test.YtlpelkfcmeapiaaKTablesOwn
namespace Go.Proofs.Ytlpelkfcmeapiaa
open Go Go.Proofs.Ytlpelkfcmeapiaa.Sx
set_option linter.unusedVariables false
set_option linter.unusedSimpArgs false
theorem assignsT_ok : weirkeep_assigns_F = some true := by kernel_rfl
theorem doublesT_ok : weirkeep_doubles_F = some true := by kernel_rfl
theorem galesT_ok : weirkeep_gales_F = some true := by kernel_rfl
theorem cloneTI {l : List Int} (h : l.length ≤ 1048576) : slices_Clone_int_F l = some l := by
  unfold slices_Clone_int_F
  rw [ck_some (by omega)]; rfl
theorem best_badT {gain : List (List Int)} (h : ¬ GainOk gain) : ∃ e, e ≠ 0 ∧ assign_Best_F gain = some ([], 0, e) := by
  obtain ⟨e, he, hiff⟩ := assign_check gain
  have hne : e ≠ 0 := fun z => h (hiff.1 z)
  refine ⟨e, hne, ?_⟩
  unfold assign_Best_F
  rw [he, bind_some', if_pos hne]
theorem best_total (gain : List (List Int)) : ∃ p s e, assign_Best_F gain = some (p, s, e) := by
  by_cases h : GainOk gain
  · obtain ⟨p, s, e, _⟩ := assign_best h
    exact ⟨_, s, 0, e⟩
  · obtain ⟨e, _, h1⟩ := best_badT h
    exact ⟨[], 0, e, h1⟩
theorem dsplit_total (t : List (List Int)) : ∃ l e, double_Split_F t = some (l, e) := by
  rcases check_dbl t with ⟨s, h6, hD, s0, s1, sz, hb, hc⟩ | h
  · obtain ⟨l, e, _⟩ := split_ok h6 hD s0 s1 sz hb hc
    exact ⟨l, 0, e⟩
  · obtain ⟨e, he, hc⟩ := h
    exact ⟨[], e, split_bad he hc⟩
theorem concatT {l m : List (List Int)} (hl : l.length ≤ 1048576) (hm : m.length ≤ 1048576) : slices_Concat_intL_F [l, m] = some (l ++ m) := by
  unfold slices_Concat_intL_F
  have e1 : forN (slices_Concat_intL_B1 [l, m]) [l, m].length 0 0 = some (l.length + m.length) := by
    simp only [List.length_cons, List.length_nil, forN, slices_Concat_intL_B1, List.getD_eq_getElem?_getD, List.getElem?_cons_zero, List.getElem?_cons_succ, Option.getD_some, Nat.zero_add]
    rw [ck_some (by unfold InI; omega), if_neg (by omega), bind_some', ck_some (by unfold InI; omega), if_neg (by omega), bind_some']
  have e2 : slices_Grow_intL_F (((l.length + m.length : Nat)) : Int) = some [] := by
    unfold slices_Grow_intL_F
    rw [if_neg (by omega), bind_some', ck_some (by unfold InI; omega), ck_some (by unfold InI; omega)]
    by_cases c : 0 < (((l.length + m.length : Nat) : Int) - (0 - 0))
    · rw [if_pos c, ck_some ⟨by omega, by omega⟩]; rfl
    · rw [if_neg c]
  rw [e1, bind_some', e2, bind_some']
  have e3 : forN (slices_Concat_intL_B2 [l, m]) [l, m].length 0 [] = some (l ++ m) := by
    simp only [List.length_cons, List.length_nil, forN, slices_Concat_intL_B2, List.getD_eq_getElem?_getD, List.getElem?_cons_zero, List.getElem?_cons_succ, Option.getD_some, List.nil_append, Nat.zero_add]
    rw [ck_some (by omega), bind_some', ck_some (by omega), bind_some']
  rw [e3, bind_some']
theorem TablesOwn_true (gain t : List (List Int)) (rows cols : List Int) (hg : gain.length ≤ 1048576 ∧ ∀ k, k < gain.length → (gain.getD k []).length ≤ 1048576) (ht : t.length ≤ 1048576 ∧ ∀ k, k < t.length → (t.getD k []).length ≤ 1048576)
    (hr : rows.length ≤ 1048576) (hc : cols.length ≤ 1048576) : weirkeep_TablesOwn_F gain t rows cols = some true := by
  obtain ⟨p, s, e, h1⟩ := best_total gain
  obtain ⟨l, e2, h2⟩ := dsplit_total t
  obtain ⟨o, e3, h3, _⟩ := make_is rows cols
  obtain ⟨d, e4, h4⟩ := degMake_total rows
  have hlen : ∀ k, k < (gain ++ t).length → ((gain ++ t).getD k []).length ≤ 1048576 := fun k hk => by
    rw [List.length_append] at hk
    by_cases c : k < gain.length
    · rw [List.getD_eq_getElem?_getD, List.getElem?_append_left c, ← List.getD_eq_getElem?_getD]; exact hg.2 k c
    · rw [List.getD_eq_getElem?_getD, List.getElem?_append_right (by omega), ← List.getD_eq_getElem?_getD]; exact ht.2 _ (by omega)
  have hL : (gain ++ t).length ≤ 2097152 := by rw [List.length_append]; omega
  unfold weirkeep_TablesOwn_F
  rw [assignsT_ok, bind_some', if_neg (by decide), doublesT_ok, bind_some', if_neg (by decide), galesT_ok, bind_some', if_neg (by decide), concatT hg.1 ht.1, bind_some']
  generalize gain ++ t = L at hlen hL ⊢
  obtain ⟨w, hw, w1, w2⟩ := forN_inv (f := weirkeep_TablesOwn_B1 L) (fun j (w : List (List Int)) => w.length = j ∧ ∀ i, i < j → w.getD i [] = L.getD i []) (n := L.length) (k := 0) (s := []) ⟨rfl, fun i hi => absurd hi (by omega)⟩ fun j w _ hj ⟨i1, i2⟩ => by
    unfold weirkeep_TablesOwn_B1
    rw [cloneTI (hlen j (by omega)), bind_some', ck_some (by omega)]
    refine ⟨_, rfl, by simp [i1], fun i hi => ?_⟩
    by_cases c : i = j
    · subst c
      rw [List.getD_eq_getElem?_getD, List.getElem?_append_right (by omega), i1, Nat.sub_self]; rfl
    · rw [List.getD_eq_getElem?_getD, List.getElem?_append_left (by omega), ← List.getD_eq_getElem?_getD]; exact i2 i (by omega)
  rw [hw, bind_some', cloneTI hr, bind_some', cloneTI hc, bind_some', h1, bind_some']
  dsimp only
  rw [show weirkeep_spoil_int_F p (-1) = some () from rfl, bind_some', h2, bind_some']
  dsimp only
  obtain ⟨z, hz, _⟩ := forN_inv (f := weirkeep_TablesOwn_B2 l) (fun _ _ => True) (n := l.length) (k := 0) (s := ()) trivial fun j s _ _ _ => ⟨(), rfl, trivial⟩
  rw [hz, bind_some', h3, bind_some']
  dsimp only
  rw [show weirkeep_spoil_uint16_F o 0 = some () from rfl, bind_some', h4, bind_some']
  dsimp only
  rw [show weirkeep_spoil_Arc_F d ⟨-1, 0, 0⟩ = some () from rfl, bind_some', bind_some', forC_all (f := weirkeep_TablesOwn_B3 w L) fun j _ hj => by
    unfold weirkeep_TablesOwn_B3
    rw [ck_some (by omega), w2 j (by omega), equalInts_eq, bind_some', decide_eq_true rfl, if_neg (by decide)], bind_some']
  dsimp only
  rw [bind_some']
  dsimp only
  rw [equalInts_eq, bind_some', if_pos (by simp), equalInts_eq, bind_some', if_pos (by simp), if_pos rfl, decide_eq_true rfl]
end Go.Proofs.Ytlpelkfcmeapiaa
