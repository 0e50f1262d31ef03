/- ShortThree: the law's function answers true. -/
import Derived.Test.YtmgldjkgneiejaaPthree
import Derived.Test.YtmgldjkgneiejaaPkeep
import Derived.Test.YtmgldjkgneiejaaKShortThree
namespace Go.Proofs.Ytmgldjkgneiejaa
open Go Go.Proofs.Ytmgldjkgneiejaa.Sx
set_option linter.unusedVariables false
set_option linter.unusedSimpArgs false
theorem line_all : ((short_All_F ⟨3, [⟨0, 1, 4⟩, ⟨1, 2, 3⟩]⟩).bind fun r => (slices_Equal_int_F (r.1.getD 0 []) [0, 4, 7]).bind fun b => some (decide (r.2.2 = 0) && decide (r.1.length = 3) && b)) = some true := by kernel_rfl
theorem ShortThree_true (g : Graph) : weirkeep_ShortThree_F g = some true := by
  unfold weirkeep_ShortThree_F
  rw [line_eq, bind_some']
  have hl := line_all
  generalize short_All_F ⟨3, [⟨0, 1, 4⟩, ⟨1, 2, 3⟩]⟩ = q at hl ⊢
  match q, hl with
  | some (r, r', e), hl =>
  rw [bind_some'] at hl ⊢
  dsimp only at hl ⊢
  generalize slices_Equal_int_F (r.getD 0 []) [0, 4, 7] = u at hl ⊢
  match u, hl with
  | some b, hl =>
  rw [bind_some'] at hl
  simp only [Option.some.injEq, Bool.and_eq_true, decide_eq_true_eq] at hl
  obtain ⟨⟨rfl, hr⟩, rfl⟩ := hl
  rw [if_neg (by simp), if_neg (by omega), ck_some (by omega), bind_some', if_neg (by simp)]
  by_cases hc : checkF g (-10000) = 0
  · have hg := (checkF_ok g _).1 hc
    have := hg.n0; have := hg.n1; have := hg.len
    rcases heights_cases hg with h1 | ⟨h, h1, hh⟩
    · rw [all_bad h1 (by decide), bind_some']
      dsimp only
      rw [if_pos (by decide), ck_some (by decide)]; rfl
    · obtain ⟨d, kn, h2, A⟩ := all_ok hg hh h1
      have l0 := A.l0; have l1 := A.l1
      rw [h2, bind_some']
      dsimp only
      rw [if_neg (by simp), if_neg (by omega), if_neg (by omega)]
      have s1 : forC (weirkeep_ShortThree_B1 g d kn) d.length 0 () = some (.go ()) := forC_all fun j _ hj => by
        have R := A.row j (by omega)
        have q0 := R.l0; have q1 := R.l1; have q2 := R.zero
        unfold weirkeep_ShortThree_B1
        rw [if_neg (by omega), ck_some (by omega), if_neg (by omega), ck_some (by omega)]
        rw [show ((j : Int)).toNat = j by omega] at q2
        rw [if_neg (fun z => z q2)]
      have s2 : forC (weirkeep_ShortThree_B2 d kn) d.length 0 () = some (.go ()) := forC_all fun i _ hi => by
        unfold weirkeep_ShortThree_B2
        have s3 : forC (weirkeep_ShortThree_B3 d kn i) d.length 0 () = some (.go ()) := forC_all fun m _ hm => by
          unfold weirkeep_ShortThree_B3
          have s4 : forC (weirkeep_ShortThree_B4 d kn i m) d.length 0 () = some (.go ()) := forC_all fun k _ hk => by
            have R := A.row i (by omega)
            have R2 := A.row m (by omega)
            have a0 := R.l0; have a1 := R.l1; have b0 := R2.l0; have b1 := R2.l1
            unfold weirkeep_ShortThree_B4
            rw [ck_some (by omega), ck_some (by omega)]
            by_cases c1 : (kn.getD i []).getD m false = true
            · rw [if_pos c1, ck_some (by omega), ck_some (by omega)]
              by_cases c2 : (kn.getD m []).getD k false = true
              · have w := R2.way (k : Int) (by omega) (by omega) (by rw [show ((k : Int)).toNat = k by omega]; exact c2)
                have z := R.le w (by rw [show ((m : Int)).toNat = m by omega]; exact c1)
                rw [show ((k : Int)).toNat = k by omega, show ((m : Int)).toNat = m by omega] at z
                have := R.lo m; have := R.hi m; have := R2.lo k; have := R2.hi k
                rw [if_pos c2, ck_some (by omega), if_neg (by rw [z.1]; decide), ck_some (by omega), ck_some (by omega), ck_some (by omega), ck_some (inI_small (by omega) (by omega)), if_neg (by have := z.2; omega)]
              · rw [if_neg c2]
            · rw [if_neg c1]
          rw [s4, bind_some']
        rw [s3, bind_some']
      rw [s1, bind_some']
      dsimp only
      rw [s2, bind_some']
  · rw [all_bad (heights_bad hc) hc, bind_some']
    dsimp only
    rw [if_pos hc, ck_some (by decide)]; rfl
end Go.Proofs.Ytmgldjkgneiejaa
