/- ShortHeights: the law's function answers true. -/
import Derived.Test.YtmgldjkgneiejaaPshort
import Derived.Test.YtmgldjkgneiejaaPkeep
import Derived.Test.YtmgldjkgneiejaaKShortHeights
namespace Go.Proofs.Ytmgldjkgneiejaa
open Go Go.Proofs.Ytmgldjkgneiejaa.Sx
set_option linter.unusedVariables false
set_option linter.unusedSimpArgs false
theorem line_heights : ((short_Heights_F ⟨3, [⟨0, 1, 4⟩, ⟨1, 2, 3⟩]⟩).bind fun r => (slices_Equal_int_F r.1 [0, 0, 0]).bind fun b => some (decide (r.2 = 0) && b)) = some true := by kernel_rfl
theorem long_check (n least : Int) (h : List Int) : ∀ L : List Arc, (∀ a, a ∈ L → 0 ≤ a.f ∧ a.f < n ∧ 0 ≤ a.t ∧ a.t < n) → checkL n least (L.map (long h)) = 0 ∨ checkL n least (L.map (long h)) = 1
  | [], _ => .inl rfl
  | a :: L, hL => by
    have := hL a (by simp)
    rw [List.map_cons, checkL]
    rw [if_neg (by simp only [long]; omega)]
    split
    · exact .inr rfl
    · exact long_check n least h L fun b hb => hL b (by simp [hb])
theorem long_checkF {g : Graph} (hg : Ok g) (h : List Int) : checkF ⟨g.n, g.as.map (long h)⟩ (-10000) = 0 ∨ checkF ⟨g.n, g.as.map (long h)⟩ (-10000) = 1 := by
  have := hg.n0; have := hg.n1; have := hg.len
  unfold checkF
  dsimp only
  rw [if_neg (by omega), if_neg (by simp; omega)]
  exact long_check _ _ _ _ fun a ha => by have := hg.arc a ha; exact ⟨this.f0, this.f1, this.t0, this.t1⟩
theorem long_loop {g : Graph} (hg : Ok g) {h : List Int} (hh : Heighted g h) : forC (weirkeep_ShortHeights_B1 g h) g.as.length 0 g.as = some (.go (g.as.map (long h))) := by
  obtain ⟨l, h1, h2, h3, h4⟩ := forC_inv (f := weirkeep_ShortHeights_B1 g h) (fun k l => l.length = g.as.length ∧ (∀ i, i < k → l.getD i El.d = long h (g.as.getD i El.d)) ∧ ∀ i, k ≤ i → l.getD i El.d = g.as.getD i El.d) (n := g.as.length) (k := 0) (s := g.as) ⟨rfl, fun i hi => by omega, fun i _ => rfl⟩ fun j s _ hj ⟨q1, q2, q3⟩ => by
    have hj' : j < g.as.length := by omega
    have e := q3 j (Nat.le_refl _)
    refine ⟨s.set j (long h (g.as.getD j El.d)), ?_, by simp [q1], fun i hi => ?_, fun i hi => ?_⟩
    · have hG := hg.arc _ (mem_getD (d := El.d) hj')
      have hA := hh.arc _ (mem_getD (d := El.d) hj')
      unfold weirkeep_ShortHeights_B1 long
      rw [e]
      generalize g.as.getD j El.d = a at *
      have := hG.f0; have := hG.f1; have := hG.t0; have := hG.t1; have := hG.c0; have := hG.c1; have := hh.len
      have := hh.lo a.f.toNat; have := hh.hi a.f.toNat; have := hh.lo a.t.toNat; have := hh.hi a.t.toNat
      rw [ck_some ⟨by omega, by omega⟩, ck_some ⟨by omega, by omega⟩, ck_some (inI_small (by omega) (by omega)), if_neg (by omega), if_neg (by omega), ck_some (by omega), ck_some (inI_small (by omega) (by omega)), ck_some (inI_small (by omega) (by omega))]
    · rw [getD_set']
      by_cases e2 : i = j
      · subst e2; rw [if_pos ⟨rfl, by omega⟩]
      · rw [if_neg (fun x => e2 x.1)]; exact q2 i (by omega)
    · rw [getD_set', if_neg (fun x => by omega)]; exact q3 i (by omega)
  rw [h1]
  congr 2
  refine eq_of_getD (d := El.d) (by simp [h2]) fun i hi => ?_
  rw [h3 i (by omega)]
  have : i < g.as.length := by omega
  simp [List.getD_eq_getElem?_getD, this]
theorem ShortHeights_true (g : Graph) (s : Int) : weirkeep_ShortHeights_F g s = some true := by
  unfold weirkeep_ShortHeights_F
  rw [line_eq, bind_some']
  have hl := line_heights
  generalize short_Heights_F ⟨3, [⟨0, 1, 4⟩, ⟨1, 2, 3⟩]⟩ = q at hl ⊢
  match q, hl with
  | some (r, e), hl =>
  rw [bind_some'] at hl ⊢
  dsimp only at hl ⊢
  generalize slices_Equal_int_F r [0, 0, 0] = u at hl ⊢
  match u, hl with
  | some b, hl =>
  rw [bind_some'] at hl ⊢
  simp only [Option.some.injEq, Bool.and_eq_true, decide_eq_true_eq] at hl
  obtain ⟨rfl, rfl⟩ := hl
  rw [if_neg (by simp), if_neg (by simp)]
  by_cases hc : checkF g (-10000) = 0
  · have hg := (checkF_ok g _).1 hc
    have := hg.n0; have := hg.n1; have := hg.len
    rcases heights_cases hg with h1 | ⟨h, h1, hh⟩
    · rw [h1, bind_some']; rfl
    · rw [h1, bind_some']
      dsimp only
      have hlen := hh.len
      rw [if_neg (by simp), if_neg (by omega), clone_eq (by omega), bind_some', long_loop hg hh, bind_some']
      dsimp only
      by_cases hc2 : checkF ⟨g.n, g.as.map (long h)⟩ (-10000) = 0
      · have hg2 := (checkF_ok _ _).1 hc2
        by_cases hs : s < 0 ∨ g.n ≤ s
        · rw [from_out hg hs, bind_some', from_out hg2 hs, bind_some']; rfl
        · obtain ⟨f1, r1⟩ := from_eq hg (s := s) (by omega) (by omega)
          obtain ⟨f2, r2⟩ := from_eq hg2 (s := s) (by omega) (show s < g.n by omega)
          dsimp only at f2 r2
          have hst : Alike g.n.toNat h (h.getD s.toNat 0) ((start g.n s).1, (start g.n s).2, true) ((start g.n s).1, (start g.n s).2, true) := ⟨rfl, by simp [start], by simp [start], by simp [start], fun i hi hk => by
            dsimp only [start] at hk ⊢
            rw [getD_set'] at hk
            by_cases e : i = s.toNat
            · subst e; omega
            · rw [if_neg (fun x => e x.1)] at hk; simp [hi] at hk⟩
          obtain ⟨a1, a2⟩ := relP_alike (L := g.as) (fun a ha => by have hG := hg.arc a ha; have := hG.f0; have := hG.f1; have := hG.t0; have := hG.t1; omega) (m := (g.n + 1).toNat) hst
          rw [show ((start g.n s).1, (start g.n s).2) = start g.n s from rfl] at a1 a2
          rw [f1, bind_some', f2, bind_some', a1]
          by_cases hq : (relP g.as (g.n + 1).toNat (start g.n s)).1 = true
          · rw [if_pos hq, if_pos hq]
            have hq2 : (relP (g.as.map (long h)) (g.n + 1).toNat (start g.n s)).1 = true := a1.trans hq
            have e1 := a2.l0; have e2 := a2.l1; have e3 := a2.l2; have e4 := a2.far; have e5 := (Prod.mk.inj a2.same).1
            have b1 := r1.lo; have b2 := r1.hi
            dsimp only at e1 e2 e3 e4 e5 b1 b2 ⊢
            rw [if_neg (by simp), if_neg (by simp), if_neg (by omega), if_neg (by omega), equalBools_eq, bind_some', e5, if_neg (by simp), forC_all (fun j _ hj => ?_), bind_some']
            unfold weirkeep_ShortHeights_B2
            have hj' : j < g.n.toNat := by omega
            rw [ck_some (by omega)]
            by_cases hk : (relP g.as (g.n + 1).toNat (start g.n s)).2.2.getD j false = true
            · have := e4 j hj' hk
              have := b1 j; have := b2 j; have := hh.lo j; have := hh.hi j; have := hh.lo s.toNat; have := hh.hi s.toNat
              rw [if_pos hk, ck_some (by omega), ck_some ⟨by omega, by omega⟩, ck_some (inI_small (by omega) (by omega)), ck_some (by omega), ck_some (inI_small (by omega) (by omega)), if_neg (fun x => x (by omega))]
            · rw [if_neg hk]
          · rw [if_neg hq, if_neg hq]; rfl
      · have e1 : checkF ⟨g.n, g.as.map (long h)⟩ (-10000) = 1 := (long_checkF hg h).resolve_left hc2
        have f2 := from_bad hc2 s
        rw [e1] at f2
        by_cases hs : s < 0 ∨ g.n ≤ s
        · rw [from_out hg hs, bind_some', f2, bind_some']; rfl
        · obtain ⟨f1, r1⟩ := from_eq hg (s := s) (by omega) (by omega)
          rw [f1, bind_some', f2, bind_some']
          split <;> rfl
  · rw [heights_bad hc, bind_some']
    dsimp only
    rw [if_pos hc]; rfl
end Go.Proofs.Ytmgldjkgneiejaa
