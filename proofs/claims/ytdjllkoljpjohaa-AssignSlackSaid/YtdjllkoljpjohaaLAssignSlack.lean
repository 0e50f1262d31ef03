/- The law AssignSlack in plain words: the prices fit and are just on what is assigned. -/
import Derived.Test.YtdjllkoljpjohaaPprices
import Derived.Test.YtdjllkoljpjohaaKAssignSlack
namespace Go.Proofs.Ytdjllkoljpjohaa
open Go Go.Proofs.Ytdjllkoljpjohaa.Sx
set_option linter.unusedVariables false
set_option linter.unusedSimpArgs false
theorem pricesTest : assign_Prices_F [[5, 4], [3, 1]] = some ([4, 2], [1, 0], 0) := by kernel_rfl
theorem eqTest1 : slices_Equal_int_F [4, 2] [4, 2] = some true := by kernel_rfl
theorem eqTest2 : slices_Equal_int_F [1, 0] [1, 0] = some true := by kernel_rfl
theorem sumK_eq {l : List Int} (hn : l.length ≤ 6) (hb : ∀ i, i < l.length → -100000 ≤ l.getD i 0 ∧ l.getD i 0 ≤ 100000) : weirkeep_sum_F l = some (tot (fun i => l.getD i 0) l.length) := by
  obtain ⟨x, e, h, _⟩ := forN_inv (f := weirkeep_sum_B1 l) (fun j (x : Int) => x = tot (fun i => l.getD i 0) j ∧ -100000 * (j : Int) ≤ x ∧ x ≤ 100000 * (j : Int)) (n := l.length) (k := 0) (s := 0) ⟨rfl, by omega, by omega⟩ fun j x _ hj ⟨i1, i2, i3⟩ => by
    have := hb j (by omega)
    unfold weirkeep_sum_B1
    rw [ck_some (inI_small (by omega) (by omega))]
    exact ⟨_, rfl, by rw [i1]; rfl, by omega, by omega⟩
  unfold weirkeep_sum_F
  rw [e, bind_some', h, Nat.zero_add]
theorem AssignSlack_true (gain : List (List Int)) : weirkeep_AssignSlack_F gain = some true := by
  unfold weirkeep_AssignSlack_F
  rw [show weirkeep_gains_F = some [[5, 4], [3, 1]] from rfl, bind_some', pricesTest, bind_some']
  dsimp only
  rw [if_neg (by decide), eqTest1, bind_some', if_neg (by decide), eqTest2, bind_some', if_neg (by decide)]
  by_cases h : GainOk gain
  · have n6 := h.n6
    obtain ⟨p, s, hb, hp⟩ := assign_best h
    obtain ⟨rest, price, hpr, hk⟩ := prices_ok h hp hb
    have l1 := hk.len1
    have l2 := hk.len2
    have hrb : ∀ i, i < gain.length → -100000 ≤ rest.getD i 0 ∧ rest.getD i 0 ≤ 100000 := fun i hi => by
      have a := h.bnd i (p.getD i 0)
      have b := hk.h0 _ (hp.lt i hi)
      have c := hk.rest_eq i hi
      unfold Wg at c
      omega
    have hs : tot (fun i => rest.getD i 0) gain.length + tot (fun i => price.getD i 0) gain.length = s := by
      have e1 : tot (fun i => rest.getD i 0) gain.length = tot (fun i => Wg gain i (p.getD i 0) - price.getD (p.getD i 0) 0) gain.length := tot_congr fun i hi => hk.rest_eq i hi
      have e2 : tot (fun i => price.getD (p.getD i 0) 0) gain.length = tot (fun k => price.getD k 0) gain.length := tot_perm hp.lt hp.inj hp.onto fun k => price.getD k 0
      rw [e1, tot_sub (fun i => Wg gain i (p.getD i 0)) (fun i => price.getD (p.getD i 0) 0), e2, hp.sum]
      omega
    have t1 : ∀ m : Nat, m ≤ 6 → ∀ f : Nat → Int, (∀ i, i < m → -100000 ≤ f i ∧ f i ≤ 100000) → -100000 * (m : Int) ≤ tot f m ∧ tot f m ≤ 100000 * (m : Int) := fun m _ f hf => by
      induction m with
      | zero => simp [tot]
      | succ m ih =>
        have := ih (by omega) fun i hi => hf i (by omega)
        have := hf m (by omega)
        simp only [tot]
        omega
    have b1 := t1 gain.length n6 (fun i => rest.getD i 0) hrb
    have b2 := t1 gain.length n6 (fun i => price.getD i 0) fun i hi => by have := hk.h0 i hi; omega
    rw [hb, bind_some']
    dsimp only
    rw [hpr, bind_some']
    dsimp only
    rw [if_neg (by decide), if_neg (by decide), List.length_map, hp.len, l1, l2, if_neg (fun z => z rfl), if_neg (fun z => z rfl), if_neg (fun z => z rfl),
      sumK_eq (by omega) (fun i hi => hrb i (by omega)), bind_some', sumK_eq (by omega) (fun i hi => by have := hk.h0 i (by omega); omega), bind_some', l1, l2, ck_some (inI_small (by omega) (by omega)), hs, if_neg (by simp)]
    have hloop : forC (weirkeep_AssignSlack_B1 gain (p.map fun (k : Nat) => (k : Int)) rest price) gain.length 0 () = some (.go ()) := forC_all fun i _ hi => by
      have hi' : i < gain.length := by omega
      unfold weirkeep_AssignSlack_B1
      have inner : forC (weirkeep_AssignSlack_B2 gain (p.map fun (k : Nat) => (k : Int)) rest price i) ((gain.getD i []).length) 0 () = some (.go ()) := forC_all fun k _ hkk => by
        rw [h.row i hi'] at hkk
        have hk' : k < gain.length := by omega
        have a := hk.fits i k hi' hk'
        have b := hk.h0 k hk'
        have c := hrb i hi'
        have d := h.bnd i k
        have e := hk.rest_eq i hi'
        have epi : (p.map fun (k : Nat) => (k : Int)).getD i 0 = ((p.getD i 0 : Nat) : Int) := by
          simp [List.getD_eq_getElem?_getD, hp.len, hi']
        unfold weirkeep_AssignSlack_B2
        unfold Wg at a e
        rw [ck_some (by omega), ck_some (by omega), ck_some (inI_small (by omega) (by omega)), ck_some (inI_small (by omega) (by omega)), if_neg (by omega)]
        by_cases c1 : 0 < rest.getD i 0 + price.getD k 0 - (gain.getD i []).getD k 0
        · rw [if_pos c1, ck_some (by rw [List.length_map, hp.len]; exact hi'), epi, if_neg (fun z => by
            have z' : p.getD i 0 = k := by omega
            rw [z'] at e
            omega), if_neg (by omega)]
        · rw [if_neg c1, if_neg (by omega)]
      rw [inner, bind_some']
    rw [hloop, bind_some']
  · obtain ⟨e, he, hb, hpr⟩ := assign_bad h
    rw [hb, bind_some']
    dsimp only
    rw [hpr, bind_some']
    dsimp only
    rw [if_pos he, if_pos rfl]
    rfl
end Go.Proofs.Ytdjllkoljpjohaa
