/- PathsMenger: the law's function answers true. -/
import Derived.Test.YtlelfifbmckhgaaPpaths
import Derived.Test.YtlelfifbmckhgaaPspread
import Derived.Test.YtlelfifbmckhgaaKPathsMenger
namespace Go.Proofs.Ytlelfifbmckhgaa
open Go Go.Proofs.Ytlelfifbmckhgaa.Sx
set_option linter.unusedVariables false
set_option linter.unusedSimpArgs false
theorem ways_test : weirkeep_ways_F = some true := by kernel_rfl
def barN (n : Net) (low : Int) : Nat → List Int
  | 0 => []
  | j + 1 => if bit low (n.as.getD j El.d).f = 1 ∧ bit low (n.as.getD j El.d).t = 0 then barN n low j ++ [(j : Int)] else barN n low j
theorem barN_mem (n : Net) (low : Int) {k : Nat} : ∀ {j : Nat}, (k : Int) ∈ barN n low j ↔ k < j ∧ bit low (n.as.getD k El.d).f = 1 ∧ bit low (n.as.getD k El.d).t = 0
  | 0 => by simp [barN]
  | j + 1 => by
    rw [barN]
    by_cases c : bit low (n.as.getD j El.d).f = 1 ∧ bit low (n.as.getD j El.d).t = 0
    · rw [if_pos c, List.mem_append, barN_mem n low (j := j)]
      constructor
      · rintro (⟨h1, h2⟩ | h)
        · exact ⟨by omega, h2⟩
        · have : k = j := Int.ofNat_inj.1 (List.mem_singleton.1 h)
          rw [this]; exact ⟨by omega, c⟩
      · rintro ⟨h1, h2⟩
        by_cases e : k = j
        · subst e; exact .inr (by simp)
        · exact .inl ⟨by omega, h2⟩
    · rw [if_neg c, barN_mem n low (j := j)]
      constructor
      · rintro ⟨h1, h2⟩; exact ⟨by omega, h2⟩
      · rintro ⟨h1, h2⟩
        by_cases e : k = j
        · subst e; exact absurd h2 c
        · exact ⟨by omega, h2⟩
theorem barN_len (n : Net) (low : Int) : ∀ j, j ≤ n.as.length → ((barN n low j).length : Int) = tot (cross (unitN n).as (bit low)) j ∧ (barN n low j).length ≤ j
  | 0, _ => ⟨rfl, Nat.le_refl _⟩
  | j + 1, hj => by
    have ih := barN_len n low j (by omega)
    have hc : cross (unitN n).as (bit low) j = if bit low (n.as.getD j El.d).f = 1 ∧ bit low (n.as.getD j El.d).t = 0 then 1 else 0 := by
      unfold cross unitN
      dsimp only
      rw [unit_getD _ (by omega)]
      rfl
    rw [barN, tot, hc]
    by_cases c : bit low (n.as.getD j El.d).f = 1 ∧ bit low (n.as.getD j El.d).t = 0
    · rw [if_pos c, if_pos c]
      simp only [List.length_append, List.length_cons, List.length_nil]
      omega
    · rw [if_neg c, if_neg c]; omega
theorem bar_ok {n : Net} (hn : OkNet n) : ∃ low v, paths_Bar_F n = some (barN n low n.as.length, 0) ∧ LeastS (unitN n) v low ∧ MaxV (unitN n) v := by
  have hm := hn.g.len
  dsimp only at hm
  obtain ⟨low, v, e, hL, hM⟩ := least_ok (ok_unit hn)
  have hck : graph_CheckNet_F n = some 0 := by
    rcases checkNet_cases n with ⟨_, e⟩ | ⟨z, _⟩
    · exact e
    · exact absurd hn z
  refine ⟨low, v, ?_, hL, hM⟩
  obtain ⟨l, el, hl⟩ := forN_inv (f := paths_Bar_B1 n low) (fun j (l : List Int) => l = barN n low j) (n := n.as.length) (k := 0) (s := []) rfl fun j l _ hj hI => by
    subst hI
    have hG := hn.small (k := j) (by omega)
    have hb := (barN_len n low j (by omega)).2
    unfold paths_Bar_B1
    rw [ck_some hG.1, bit_fold, bit_fold, ck_some hG.2.2.1, barN]
    by_cases c1 : bit low (n.as.getD j El.d).f = 1
    · rw [if_pos c1]
      by_cases c2 : bit low (n.as.getD j El.d).t = 0
      · rw [if_pos c2, ck_some (by omega), if_pos ⟨c1, c2⟩]
        exact ⟨_, rfl, rfl⟩
      · rw [if_neg c2, if_neg (fun z => c2 z.2)]
        exact ⟨_, rfl, rfl⟩
    · rw [if_neg c1, if_neg (fun z => c1 z.1)]
      exact ⟨_, rfl, rfl⟩
  unfold paths_Bar_F
  rw [hck, bind_some', if_neg (by decide), units_eq hm, bind_some', e, bind_some']
  dsimp only
  rw [el, bind_some', hl, Nat.zero_add]
theorem PathsMenger_true (n : Net) : weirkeep_PathsMenger_F n = some true := by
  unfold weirkeep_PathsMenger_F
  rw [ways_test, bind_some', if_neg (by decide)]
  by_cases hn : OkNet n
  · have hm := hn.g.len
    dsimp only at hm
    obtain ⟨ways, f, v, e1, hM, hf, hv, hlen, hw⟩ := apart_ok hn
    obtain ⟨low, v', e2, hL, hM'⟩ := bar_ok hn
    obtain rfl := hM.uniq hM'
    have hmin : MinCut (unitN n) v (bit low) := ⟨hL.side.cut, hL.cap⟩
    have hT := hf.minCut_tight hv hmin
    have hcut := hmin.cut
    have hb := barN_len n low n.as.length (Nat.le_refl _)
    have ulen : (unitN n).as.length = n.as.length := by unfold unitN; simp
    rw [e1, bind_some']
    dsimp only
    rw [e2, bind_some']
    dsimp only
    rw [if_neg (by decide), if_neg (by decide)]
    have hloop : forC (weirkeep_PathsMenger_B1 (ways.map fun (p : Piece) => p.arcs) (barN n low n.as.length)) (ways.map fun (p : Piece) => p.arcs).length 0 () = some (.go ()) := forC_all fun j _ hj => by
      rw [List.length_map] at hj
      have hj' : j < ways.length := by omega
      have hget : (ways.map fun (p : Piece) => p.arcs).getD j [] = (ways.getD j El.d).arcs := by simp [List.getD_eq_getElem?_getD, hj']
      obtain ⟨hP, hone⟩ := hw (ways.getD j El.d) (mem_getD hj')
      unfold weirkeep_PathsMenger_B1
      rw [hget]
      generalize ways.getD j El.d = p at *
      obtain ⟨nd, n0, n1, hnd⟩ := hP.ch.nd
      obtain ⟨c, ec, h1, h2⟩ := forN_inv (f := weirkeep_PathsMenger_B2 (ways.map fun (p : Piece) => p.arcs) (barN n low n.as.length) j) (fun i (c : Nat) => (c : Int) = bit low (nd 0) - bit low (nd i) ∧ c ≤ 1) (n := p.arcs.length) (k := 0) (s := 0) ⟨by simp, by decide⟩ fun i c _ hi ⟨i1, i2⟩ => by
        have hi' : i < p.arcs.length := by omega
        have hrg := hP.ch.rg i hi'
        obtain ⟨f1, f2⟩ := hnd i hi'
        have hk : (p.arcs.getD i 0).toNat < n.as.length := by omega
        have ua : arcI (unitN n).as p.arcs i = unitA (n.as.getD (p.arcs.getD i 0).toNat El.d) := by
          unfold arcI unitN
          exact unit_getD _ hk
        rw [ua] at f1 f2
        have hon := hone i hi'
        have t2 := hT.inn (p.arcs.getD i 0).toNat (by omega)
        have ug : (unitN n).as.getD (p.arcs.getD i 0).toNat El.d = unitA (n.as.getD (p.arcs.getD i 0).toNat El.d) := unit_getD _ hk
        rw [ug, f1, f2] at t2
        have bm := barN_mem n low (k := (p.arcs.getD i 0).toNat) (j := n.as.length)
        rw [show (((p.arcs.getD i 0).toNat : Nat) : Int) = p.arcs.getD i 0 by omega] at bm
        have f1' : (n.as.getD (p.arcs.getD i 0).toNat El.d).f = nd i := f1
        have f2' : (n.as.getD (p.arcs.getD i 0).toNat El.d).t = nd (i + 1) := f2
        rw [f1', f2'] at bm
        have b1 := bit01 low (nd i); have b2 := bit01 low (nd (i + 1)); have b3 := bit01 low (nd 0)
        unfold weirkeep_PathsMenger_B2
        rw [hget, contains_eq, bind_some']
        by_cases c1 : p.arcs.getD i 0 ∈ barN n low n.as.length
        · rw [decide_eq_true c1, if_pos rfl, ck_some (inI_small (by omega) (by omega))]
          have := bm.1 c1
          exact ⟨_, rfl, by omega, by omega⟩
        · rw [decide_eq_false c1, if_neg (by decide)]
          have hno : ¬ (bit low (nd i) = 1 ∧ bit low (nd (i + 1)) = 0) := fun z => c1 (bm.2 ⟨hk, z⟩)
          have hno2 : ¬ (bit low (nd i) = 0 ∧ bit low (nd (i + 1)) = 1) := fun z => by
            have := t2 z.1 z.2
            omega
          exact ⟨_, rfl, by omega, i2⟩
      rw [Nat.zero_add, n0, n1] at h1
      have s1 := hcut.s; have s2 := hcut.t
      rw [ec, bind_some', if_neg (by rw [h1]; show ¬ (bit low n.s - bit low n.t ≠ 1); have s1' : bit low n.s = 1 := s1; have s2' : bit low n.t = 0 := s2; omega)]
    rw [hloop, bind_some', List.length_map]
    refine congrArg some (decide_eq_true ?_)
    rw [hlen, hb.1, ← ulen]
    exact hL.cap.symm
  · obtain ⟨e, he, hc, h⟩ := apart_bad hn
    have h2 : paths_Bar_F n = some ([], e) := by
      unfold paths_Bar_F
      rw [hc, bind_some', if_pos he]
    rw [h, bind_some']
    dsimp only
    rw [h2, bind_some']
    dsimp only
    rw [if_pos he, if_pos rfl, ck_some (inI_small (by decide) (by decide))]
    rfl
end Go.Proofs.Ytlelfifbmckhgaa
