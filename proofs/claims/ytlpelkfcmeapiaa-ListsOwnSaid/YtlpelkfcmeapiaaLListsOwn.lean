/- ListsOwn: the law's function answers true. -/
import Derived.Test.YtlpelkfcmeapiaaPkuhn
import Derived.Test.YtlpelkfcmeapiaaPshapley
import Derived.Test.YtlpelkfcmeapiaaPthree
import Derived.Test.YtlpelkfcmeapiaaKListsOwn
namespace Go.Proofs.Ytlpelkfcmeapiaa
open Go Go.Proofs.Ytlpelkfcmeapiaa.Sx
set_option linter.unusedVariables false
set_option linter.unusedSimpArgs false
theorem matesO_ok : weirkeep_mates_F = some true := by kernel_rfl
theorem stablesLO_ok : weirkeep_stables_F = some true := by kernel_rfl
theorem shortsO_ok : weirkeep_shorts_F = some true := by kernel_rfl
theorem cloneA_eq {l : List Arc} (h : l.length + 1 ≤ 5864062014805) : slices_Clone_Arc_F l = some l := by
  unfold slices_Clone_Arc_F
  rw [ck_some (by omega)]; rfl
theorem most_plain (m n : Int) (l : List Arc) : ∃ out e, match_Most_F m n l = some (out, e) ∧ ∀ x, x ∈ out → 0 ≤ x := by
  unfold match_Most_F
  rcases checkP m n l with ⟨hP, e⟩ | ⟨hb, er, he, e⟩
  · have hn1 := hP.n1
    obtain ⟨mate, e2, h, hbest⟩ := mates_best hP
    have hml := h.mv.len
    rw [e, bind_some', if_neg (by decide), e2, bind_some']
    obtain ⟨o, e3, h1, h2⟩ := forN_inv (f := match_Most_B1 mate) (fun j (o : List Int) => o.length ≤ j ∧ ∀ x, x ∈ o → 0 ≤ x) (n := mate.length) (k := 0) (s := []) ⟨Nat.le_refl _, fun x hx => (by cases hx)⟩ fun j o _ hj ⟨hI, hx⟩ => by
      unfold match_Most_B1
      by_cases c : 0 ≤ mate.getD j 0
      · rw [if_pos c, ck_some (by omega)]
        exact ⟨_, rfl, by simp; omega, fun x hx' => by
          rcases List.mem_append.1 hx' with q | q
          · exact hx x q
          · rw [List.mem_singleton.1 q]; exact c⟩
      · rw [if_neg c]
        exact ⟨_, rfl, by omega, hx⟩
    obtain ⟨o2, e4, sw, _⟩ := sortI_all lessI (l := o) (by omega) (fun _ _ => trivial)
    have l2 := sw.len
    rw [e3, bind_some', e4, bind_some', ck_some (by omega)]
    exact ⟨o2, 0, rfl, fun x hx => h2 x (sw.mem (by omega) hx)⟩
  · exact ⟨[], er, by rw [e, bind_some', if_pos he], fun x hx => (by cases hx)⟩
theorem stable_plain (a b : List (List Int)) : ∃ q e, stable_Best_F a b = some (q, e) ∧ ∀ x, x ∈ q → 0 ≤ x := by
  by_cases h : OkS a b
  · obtain ⟨q, e, hq⟩ := stable_best h
    refine ⟨q, 0, e, fun x hx => ?_⟩
    obtain ⟨k, hk, rfl⟩ := getD_of_mem (d := 0) hx
    exact (hq.good.perm.rg (i := k) (by rw [hq.good.perm.len] at hk; exact hk)).1
  · obtain ⟨e, he, h1⟩ := stable_bad h
    exact ⟨[], e, h1, fun x hx => (by cases hx)⟩
theorem all_plain (g : Graph) : ∃ d kn e, short_All_F g = some (d, kn, e) ∧ ∀ i, i < d.length → i < (d.getD i []).length ∧ (d.getD i []).getD i 0 = 0 := by
  by_cases hc : checkF g (-10000) = 0
  · have hg := (checkF_ok _ _).1 hc
    rcases heights_cases hg with h1 | ⟨h, h1, hh⟩
    · exact ⟨[], [], 6, all_bad h1 (by decide), fun i hi => absurd hi (by simp)⟩
    · obtain ⟨d, kn, e, hA⟩ := all_ok hg hh h1
      refine ⟨d, kn, 0, e, fun i hi => ?_⟩
      rw [hA.l0] at hi
      have hr := hA.row i hi
      refine ⟨by rw [hr.l0]; exact hi, ?_⟩
      have := hr.zero
      rwa [show ((i : Nat) : Int).toNat = i by omega] at this
  · exact ⟨[], [], _, all_bad (heights_bad hc) hc, fun i hi => absurd hi (by simp)⟩
theorem ListsOwn_true (m n : Int) (l : List Arc) (a b : List (List Int)) (g : Graph) (hz : l.length + 1 ≤ 5864062014805) : weirkeep_ListsOwn_F m n l a b g = some true := by
  obtain ⟨o, e1, h1, h2⟩ := most_plain m n l
  obtain ⟨q, e2, h3, h4⟩ := stable_plain a b
  obtain ⟨d, kn, e3, h5, h6⟩ := all_plain g
  unfold weirkeep_ListsOwn_F
  rw [matesO_ok, bind_some', if_neg (by decide), stablesLO_ok, bind_some', if_neg (by decide), shortsO_ok, bind_some', if_neg (by decide), cloneA_eq hz, bind_some', h1, bind_some']
  dsimp only
  rw [show weirkeep_spoil_int_F o (-1) = some () from rfl, bind_some', bind_some']
  dsimp only
  rw [h3, bind_some']
  dsimp only
  rw [show weirkeep_spoil_int_F q (-1) = some () from rfl, bind_some', bind_some']
  dsimp only
  rw [h5, bind_some']
  dsimp only
  obtain ⟨s, hs, _⟩ := forN_inv (f := weirkeep_ListsOwn_B1 d) (fun _ _ => True) (n := d.length) (k := 0) (s := ()) trivial fun j s _ _ _ => ⟨(), rfl, trivial⟩
  rw [hs, bind_some', bind_some']
  dsimp only
  rw [forC_all (f := weirkeep_ListsOwn_B2 d) fun j _ hj => by
    obtain ⟨g1, g2⟩ := h6 j (by omega)
    unfold weirkeep_ListsOwn_B2
    rw [if_neg (by omega), ck_some g1, g2, if_neg (by decide)], bind_some']
  dsimp only
  rw [equalArcs_eq, bind_some', if_pos (by simp), if_pos rfl, if_pos rfl, if_pos rfl, contains_eq, bind_some', decide_eq_false (fun h => absurd (h2 _ h) (by decide)), if_pos (show (!false) = true from rfl), contains_eq, bind_some', decide_eq_false (fun h => absurd (h4 _ h) (by decide))]
  rfl
end Go.Proofs.Ytlpelkfcmeapiaa
