/- DegreeOthers: the law's function answers true. -/
import Derived.Test.YthgjamhcnaamdaaPdeg
import Derived.Test.YthgjamhcnaamdaaKDegreeOthers
namespace Go.Proofs.Ythgjamhcnaamdaa
open Go Go.Proofs.Ythgjamhcnaamdaa.Sx
set_option linter.unusedVariables false
set_option linter.unusedSimpArgs false
theorem degreesO_ok : weirkeep_degrees_F = some true := by kernel_rfl
theorem Graphic.other {n : Nat} {d : Nat → Int} (h : Graphic n d) : Graphic n (fun i => (n : Int) - 1 - d i) := by
  obtain ⟨g, h1, h2⟩ := h
  refine ⟨fun i j => decide (i ≠ j) && !g i j, ⟨fun i j => by
    rw [h1.sy i j, decide_eq_decide.2 (show i ≠ j ↔ j ≠ i from ⟨Ne.symm, Ne.symm⟩)], fun i => by simp⟩, fun i hi => ?_⟩
  have e : dg (fun i j => decide (i ≠ j) && !g i j) n i = tot (fun j => (1 - (if j = i then 1 else 0)) - e01 g i j) n := tot_congr fun j _ => by
    unfold e01
    by_cases z : i = j
    · subst z; simp [h1.ir]
    · have z' : ¬ j = i := fun q => z q.symm
      cases c : g i j <;> simp [z, z', c]
  rw [e, tot_sub, tot_sub, tot_const, tot_single (f := fun j => if j = i then (1 : Int) else 0) hi fun j _ hne => if_neg hne, if_pos rfl]
  have := h2 i hi
  unfold dg at this
  show _ = (n : Int) - 1 - d i
  omega
theorem tot_headD (f : Nat → Int) : ∀ m : Nat, tot f (m + 1) = f 0 + tot (fun i => f (i + 1)) m
  | 0 => by simp [tot]
  | m + 1 => by
    rw [tot, tot_headD f m, tot]; omega
def joinAllG (g : Nat → Nat → Bool) : Nat → Nat → Bool
  | 0, 0 => false
  | 0, _ + 1 => true
  | _ + 1, 0 => true
  | i + 1, j + 1 => g i j
theorem Graphic.more {n : Nat} {d d' : Nat → Int} (h0 : d' 0 = n) (hs : ∀ i, i < n → d' (i + 1) = d i + 1) : Graphic n d ↔ Graphic (n + 1) d' := by
  constructor
  · rintro ⟨g, h1, h2⟩
    refine ⟨joinAllG g, ⟨fun i j => ?_, fun i => ?_⟩, fun i hi => ?_⟩
    · cases i <;> cases j <;> first | rfl | exact h1.sy _ _
    · cases i
      · rfl
      · exact h1.ir _
    · unfold dg
      rw [tot_headD]
      cases i with
      | zero =>
        rw [h0, tot_congr (f := fun j => e01 (joinAllG g) 0 (j + 1)) (g := fun _ => 1) fun j _ => rfl, tot_const]
        show (0 : Int) + _ = _
        omega
      | succ i =>
        have := h2 i (by omega)
        unfold dg at this
        rw [hs i (by omega), tot_congr (f := fun j => e01 (joinAllG g) (i + 1) (j + 1)) (g := e01 g i) fun j _ => rfl, this]
        show (1 : Int) + _ = _
        omega
  · rintro ⟨g, h1, h2⟩
    have a := h2 0 (by omega)
    unfold dg at a
    rw [tot_headD, h0, e01_f (h1.ir 0), Int.zero_add] at a
    have all := tot_eq_each (f := fun i => e01 g 0 (i + 1)) (g := fun _ => 1) (n := n) (fun i _ => (e01_b g 0 (i + 1)).2) (by rw [a, tot_const]; omega)
    refine ⟨fun i j => g (i + 1) (j + 1), ⟨fun i j => h1.sy _ _, fun i => h1.ir _⟩, fun i hi => ?_⟩
    have b := h2 (i + 1) (by omega)
    unfold dg at b
    rw [tot_headD, hs i hi, e01_sy h1, all i hi] at b
    show tot (fun j => e01 g (i + 1) (j + 1)) n = _
    omega
theorem others_built {l : List Int} (hg : OkD l) : ∃ o m, forN (weirkeep_DegreeOthers_B1 l) l.length 0 (List.replicate l.length (0 : Int), [((l.length : Nat) : Int)]) = some (o, m) ∧ o.length = l.length ∧ (∀ p, p < l.length → o.getD p 0 = (l.length : Int) - 1 - l.getD p 0) ∧ m.length = l.length + 1 ∧ m.getD 0 0 = l.length ∧ ∀ p, p < l.length → m.getD (p + 1) 0 = l.getD p 0 + 1 := by
  have hl := hg.len
  obtain ⟨⟨o, m⟩, e, h1, h2, h3, h4, h5⟩ := forN_inv (f := weirkeep_DegreeOthers_B1 l) (fun j σ => σ.1.length = l.length ∧ (∀ p, p < j → σ.1.getD p 0 = (l.length : Int) - 1 - l.getD p 0) ∧ σ.2.length = j + 1 ∧ σ.2.getD 0 0 = l.length ∧ ∀ p, p < j → σ.2.getD (p + 1) 0 = l.getD p 0 + 1) (n := l.length) (k := 0) (s := (List.replicate l.length (0 : Int), [((l.length : Nat) : Int)])) ⟨by simp, fun p hp => absurd hp (by omega), rfl, rfl, fun p hp => absurd hp (by omega)⟩ fun j σ _ hj ⟨i1, i2, i3, i4, i5⟩ => by
    obtain ⟨o, m⟩ := σ
    dsimp only at i1 i2 i3 i4 i5
    have hr := hg.r j (by omega)
    unfold weirkeep_DegreeOthers_B1
    dsimp only
    rw [ck_some (inI_small (by omega) (by omega)), ck_some (inI_small (by omega) (by omega)), ck_some (by omega), ck_some (inI_small (by omega) (by omega)), ck_some (by omega)]
    refine ⟨_, rfl, by simp [i1], fun p hp => ?_, by simp [i3], ?_, fun p hp => ?_⟩
    · dsimp only
      rw [getD_set']
      by_cases z : p = j
      · rw [if_pos ⟨z, by omega⟩, z]
      · rw [if_neg (fun q => z q.1)]; exact i2 p (by omega)
    · dsimp only
      rw [List.getD_eq_getElem?_getD, List.getElem?_append_left (by omega), ← List.getD_eq_getElem?_getD]; exact i4
    · dsimp only
      by_cases z : p = j
      · subst z
        rw [List.getD_eq_getElem?_getD, List.getElem?_append_right (by omega), i3]
        simp
      · rw [List.getD_eq_getElem?_getD, List.getElem?_append_left (by omega), ← List.getD_eq_getElem?_getD]; exact i5 p (by omega)
  rw [Nat.zero_add] at h2 h3 h5
  exact ⟨o, m, e, h1, h2, h3, h4, h5⟩
theorem bool_iff {a b : Bool} {p : Prop} (h1 : a = true ↔ p) (h2 : b = true ↔ p) : a = b := by
  cases a <;> cases b <;> simp_all
theorem DegreeOthers_true (l : List Int) : weirkeep_DegreeOthers_F l = some true := by
  unfold weirkeep_DegreeOthers_F
  rw [degreesO_ok, bind_some', if_neg (by decide)]
  rcases can_cases l with ⟨hg, b, e, hb⟩ | ⟨_, er, he, e⟩
  · have hl := hg.len
    rw [e, bind_some']
    dsimp only
    have ecl : slices_Clone_int_F l = some l := by
      unfold slices_Clone_int_F
      rw [ck_some (by omega)]; rfl
    obtain ⟨k, ek, swk, ok⟩ := revO_ok (l := l) (by omega)
    have lk := swk.len
    obtain ⟨o, m, e2, o1, o2, m1, m2, m3⟩ := others_built hg
    rw [if_neg (by decide), ck_some (by omega), ecl, bind_some', ek, bind_some', ck_some (by omega), Int.toNat_natCast, e2, bind_some']
    dsimp only
    have hgo : OkD o := ⟨by omega, fun i hi => by rw [o2 i (by omega)]; have := hg.r i (by omega); omega⟩
    have hgk : OkD k := ⟨by omega, fun i hi => by
      obtain ⟨q, hq, z⟩ := getD_of_mem (d := 0) (swk.mem (Nat.le_refl _) (mem_getD (d := 0) hi))
      have := hg.r q hq
      rw [← z]; omega⟩
    rcases can_cases o with ⟨_, bo, eo, hbo⟩ | ⟨hbad, _⟩
    · rcases can_cases k with ⟨_, bk, ek2, hbk⟩ | ⟨hbad, _⟩
      · rw [eo, bind_some', ek2, bind_some']
        dsimp only
        have g1 : GrL o ↔ GrL l := by
          unfold GrL
          rw [o1]
          exact ⟨fun z => z.other.congr fun i hi => by rw [o2 i hi]; omega, fun z => z.other.congr fun i hi => o2 i hi⟩
        have r1 : bo = b := bool_iff hbo (hb.trans g1.symm)
        have r2 : bk = b := bool_iff hbk (hb.trans (grL_sw swk))
        rcases can_cases m with ⟨_, bm, em, hbm⟩ | ⟨_, er, he, em⟩
        · have g2 : GrL l ↔ GrL m := by
            unfold GrL
            rw [m1]
            exact Graphic.more m2 m3
          have r3 : bm = b := bool_iff hbm (hb.trans g2)
          rw [em, bind_some']
          dsimp only
          rw [if_pos rfl, if_pos rfl, if_pos r1, if_pos r2, if_neg (by decide), decide_eq_true r3]
        · rw [em, bind_some']
          dsimp only
          rw [if_pos rfl, if_pos rfl, if_pos r1, if_pos r2, if_pos he]
      · exact absurd hgk hbad
    · exact absurd hgo hbad
  · rw [e, bind_some']
    dsimp only
    rw [if_pos he]; rfl
end Go.Proofs.Ythgjamhcnaamdaa
