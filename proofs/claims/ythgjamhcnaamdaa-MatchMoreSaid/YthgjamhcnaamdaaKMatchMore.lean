/- The functions weirkeep.MatchMore, told as plain functions, and that the code does as they say. -/
import Derived.Test.YthgjamhcnaamdaaTys
import Derived.Test.YthgjamhcnaamdaaDat
import Derived.Test.YthgjamhcnaamdaaGkeep
import Derived.Test.YthgjamhcnaamdaaGmatch
import Derived.Test.YthgjamhcnaamdaaGslices
namespace Go.Proofs.Ythgjamhcnaamdaa
open Go Go.Proofs.Ythgjamhcnaamdaa.Sx
set_option linter.unusedVariables false
set_option linter.unusedSimpArgs false
def weirkeep_MatchMore_B1 (l : (List Arc)) : Nat → (List Arc) → Option ((List Arc)) := fun k32 l27 =>
 ck (l27.length + 1 ≤ 5864062014805) <|
 some (l27 ++ ([(⟨(l.getD k32 El.d).t, (l.getD k32 El.d).f, 0⟩ : Arc)] : List Arc))
def weirkeep_MatchMore_F (m : Int) (n : Int) (l : (List Arc)) (a : Arc) : Option (Bool) :=
 (weirkeep_mates_F).bind fun r2 =>
 if (!r2) = true then
  some false
 else
  (match_Most_F m n l).bind fun (r5, r7) =>
  (slices_Clone_Arc_F l).bind fun r9 =>
  ck (r9.length + 1 ≤ 5864062014805) <|
  (match_Most_F m n (r9 ++ ([a] : List Arc))).bind fun (r15, r17) =>
  if r7 ≠ 0 then
   some (decide (((r5.length : Nat) : Int) = 0))
  else
   (forN (weirkeep_MatchMore_B1 l) l.length 0 []).bind fun l31 =>
   (match_Most_F n m l31).bind fun (r39, r41) =>
   if r41 = 0 then
    if ((r39.length : Nat) : Int) = ((r5.length : Nat) : Int) then
     if r17 ≠ 0 then
      some true
     else
      if ((r5.length : Nat) : Int) ≤ ((r15.length : Nat) : Int) then
       ck (InI (((r5.length : Nat) : Int) + 1)) <|
       some (decide (((r15.length : Nat) : Int) ≤ (((r5.length + 1) : Nat) : Int)))
      else
       some false
    else
     some false
   else
    some false
def weirkeep_MatchMore_P (out : Bool) (d : D) (H : List HL) : Prop := d = .v (.bool out) ∧ H = []
theorem weirkeep_MatchMore_I (out : Bool) : IndepP (weirkeep_MatchMore_P out) := IndepP.of (by rintro _ _ ⟨rfl, rfl⟩; exact ⟨inferInstance, inferInstance⟩)
set_option maxRecDepth 100000 in
set_option maxHeartbeats 4000000 in
theorem weirkeep_MatchMore_spec (m : Int) (n : Int) (l : (List Arc)) (a : Arc) {out : Bool} (H : weirkeep_MatchMore_F m n l a = some out) : Does Try.prog 10 [.v (.int .i64 m), .v (.int .i64 n), slD l, .ag 3 (nth [.v (.int .i64 a.f), .v (.int .i64 a.t), .v (.int .i64 a.c)])] [] (weirkeep_MatchMore_P out) := by
 unfold weirkeep_MatchMore_F at H
 refine Does.intro Try.func10 rfl Try.ntmps10 rfl fun w0 I0 => ?_
 refine GoC.seq ?_
 refine GoC.region ?_
 refine GoO.effB (ef_boxAg rfl rfl) (fun β1 => ?_)
 refine GoO.pure (ps_assign rfl rfl) ?_
 refine GoO.nil ?_
 refine GoK.code ?_
 refine GoC.seq ?_
 refine GoC.seq ?_
 refine GoC.region ?_
 have hb := bind_l H; clear H
 obtain ⟨r2, e3, H⟩ := hb
 refine GoO.effC (ef_call rfl (Take.nil _) (Take.nil _) (weirkeep_mates_spec e3) (LendL.nil) rfl (weirkeep_mates_I (r2))) (fun rr HH hp => ?_)
 obtain ⟨rfl, rfl⟩ := hp
 refine GoO.pure (ps_not rfl rfl) ?_
 refine GoO.nil ?_
 refine GoK.code ?_
 refine GoC.cond rfl (fun h4 => ?_) (fun h4 => ?_)
 replace H := itb_t h4 H
 refine GoC.seq ?_
 refine GoC.region ?_
 refine GoO.pure (ps_assign rfl rfl) ?_
 refine GoO.nil ?_
 refine GoK.code ?_
 obtain rfl := Option.some.inj H
 exact GoC.retL (ds := [.v (.bool false)]) Try.results10 (ResL.cons (ResD.tmp rfl) (ResL.nil)) (Take.nil _) ⟨rfl, rfl⟩
 replace H := itb_f h4 H
 refine GoC.skip ?_
 refine GoK.code ?_
 refine GoC.seq ?_
 refine GoC.region ?_
 refine GoO.pure (ps_move rfl rfl) ?_
 refine GoO.pure (ps_move rfl rfl) ?_
 refine GoO.pure (ps_move rfl rfl) ?_
 have hb := bind_l H; clear H
 obtain ⟨⟨r5, r7⟩, e8, H⟩ := hb
 refine GoO.effC (ef_call rfl (Take.nil _) (Take.nil _) (match_Most_spec m n l e8) (LendL.cons (Lend.refl _ _) (LendL.cons (Lend.refl _ _) (LendL.cons (Lend.refl _ _) (LendL.nil)))) rfl (match_Most_I (r5, r7))) (fun rr HH hp => ?_)
 obtain ⟨β6, rfl, rfl⟩ := hp
 refine GoO.pure (ps_move rfl rfl) ?_
 refine GoO.pure (ps_extract rfl rfl rfl) ?_
 refine GoO.pure (ps_extract rfl rfl rfl) ?_
 refine GoO.pure (ps_assign rfl rfl) ?_
 refine GoO.pure (ps_assign rfl rfl) ?_
 refine GoO.nil ?_
 refine GoK.code ?_
 refine GoC.seq ?_
 refine GoC.drawP (.q 0 (.q 1 (.q 2 (.q 4 (.two 3 5 (.one 5 (.one 6 (.one 7 (.q 8 (.q 9 (.q 10 (.q 11 (.q 12 (.done))))))))) (.one 3 (.one 6 (.one 7 (.q 8 (.q 9 (.q 10 (.q 11 (.q 12 (.done)))))))))))))) [(7, _, _, _)] follows (by kernel_rfl) (Take.cons _ _ _ _ _ Rem.p1 (Take.nil _)) ?_
 refine GoP.qN rfl (ps_move rfl rfl) ?_
 refine GoP.qN rfl (ps_move rfl rfl) ?_
 refine GoP.qN rfl (ps_move rfl rfl) ?_
 refine GoP.qN rfl (ps_loadAg rfl At.p1 At.p0 Nat.zero_lt_one rfl rfl) ?_
 have hb := bind_l H; clear H
 obtain ⟨r9, e11, H⟩ := hb
 have c14 := ck_l H; replace H := ck_r H
 have hb := bind_l H; clear H
 obtain ⟨⟨r15, r17⟩, e18, H⟩ := hb
 apply GoP.fork4
 exact rfl
 exact rfl
 exact trivial
 exact trivial
 exact ef_call rfl (Take.nil _) (Take.nil _) (slices_Clone_Arc_spec l e11) (LendL.cons (Lend.refl _ _) (LendL.nil)) rfl (slices_Clone_Arc_I (r9))
 exact ef_buildSlice (row ([a] : List Arc)) rfl (Parts.cons _ _ _ _ _ _ _ _ ⟨rfl, rfl⟩ (Part.ag _ _ rfl) rfl rfl (Parts.nil _)) rfl rfl rfl rfl
 exact (Take.cons _ _ _ _ _ Rem.p1 (Take.nil _))
 exact (Take.cons _ _ _ _ _ Rem.p1 (Take.nil _))
 intro hQ
 rintro _ ⟨_, _, hp, rfl⟩
 obtain ⟨β10, rfl, rfl⟩ := hp
 refine GoP.oneB rfl trivial (ef_buildSlice (row ([a] : List Arc)) rfl (Parts.cons _ _ _ _ _ _ _ _ ⟨rfl, rfl⟩ (Part.ag _ _ rfl) rfl rfl (Parts.nil _)) rfl rfl rfl rfl) (Take.cons _ _ _ _ _ Rem.p2 (Take.nil _)) (fun β20 => ?_)
 refine GoP.oneB rfl trivial (ef_append rfl rfl Rem.p1 (Src.own At.p0 (by first | omega | (simp only [subl_length, cpl_length, List.length_set, List.length_append, List.length_cons, List.length_nil, List.length_replicate, row_len]; omega) | (simp only [subl_length, cpl_length, List.length_set, List.length_append, List.length_cons, List.length_nil, List.length_replicate, row_len]; done))) (cat_row (α := Arc) (by first | rfl | omega | (simp only [subl_length, cpl_length, List.length_set, List.length_append, List.length_cons, List.length_nil, List.length_replicate, row_len] <;> first | rfl | omega)) (by first | rfl | omega | (simp only [subl_length, cpl_length, List.length_set, List.length_append, List.length_cons, List.length_nil, List.length_replicate, row_len] <;> first | rfl | omega)) (fun _ _ _ _ => rfl)) (by first | omega | (simp only [subl_length, cpl_length, List.length_set, List.length_append, List.length_cons, List.length_nil, List.length_replicate, row_len]; omega) | (simp only [subl_length, cpl_length, List.length_set, List.length_append, List.length_cons, List.length_nil, List.length_replicate, row_len]; done)) (app_le c14 rfl) rfl rfl rfl) (Take.cons _ _ _ _ _ Rem.p1 (Take.cons _ _ _ _ _ Rem.p2 (Take.nil _))) (fun β21 => ?_)
 refine GoP.oneC rfl trivial (ef_call rfl (Take.nil _) (Take.cons _ _ _ _ _ Rem.p0 (Take.nil _)) (match_Most_spec m n (r9 ++ ([a] : List Arc)) e18) (LendL.cons (Lend.refl _ _) (LendL.cons (Lend.refl _ _) (LendL.cons (Lend.all' At.p0 (by first | rfl | omega | (simp only [subl_length, cpl_length, List.length_set, List.length_append, List.length_cons, List.length_nil, List.length_replicate, row_len] <;> first | rfl | omega)) rfl) (LendL.nil)))) rfl (match_Most_I (r15, r17))) (Take.cons _ _ _ _ _ Rem.p3 (Take.nil _)) (fun rr HH hp => ?_)
 obtain ⟨β16, rfl, rfl⟩ := hp
 refine GoP.qN rfl (ps_move rfl rfl) ?_
 refine GoP.qN rfl (ps_extract rfl rfl rfl) ?_
 refine GoP.qN rfl (ps_extract rfl rfl rfl) ?_
 refine GoP.qN rfl (ps_assign rfl rfl) ?_
 refine GoP.qN rfl (ps_assign rfl rfl) ?_
 exact GoP.done (hQ β10 β20 β21 β16)
 intro hQ
 rintro _ ⟨β19, rfl⟩
 refine GoP.oneC rfl trivial (ef_call rfl (Take.nil _) (Take.nil _) (slices_Clone_Arc_spec l e11) (LendL.cons (Lend.refl _ _) (LendL.nil)) rfl (slices_Clone_Arc_I (r9))) (Take.cons _ _ _ _ _ Rem.p2 (Take.nil _)) (fun rr HH hp => ?_)
 obtain ⟨β10, rfl, rfl⟩ := hp
 refine GoP.oneB rfl trivial (ef_append rfl rfl Rem.p0 (Src.own At.p1 (by first | omega | (simp only [subl_length, cpl_length, List.length_set, List.length_append, List.length_cons, List.length_nil, List.length_replicate, row_len]; omega) | (simp only [subl_length, cpl_length, List.length_set, List.length_append, List.length_cons, List.length_nil, List.length_replicate, row_len]; done))) (cat_row (α := Arc) (by first | rfl | omega | (simp only [subl_length, cpl_length, List.length_set, List.length_append, List.length_cons, List.length_nil, List.length_replicate, row_len] <;> first | rfl | omega)) (by first | rfl | omega | (simp only [subl_length, cpl_length, List.length_set, List.length_append, List.length_cons, List.length_nil, List.length_replicate, row_len] <;> first | rfl | omega)) (fun _ _ _ _ => rfl)) (by first | omega | (simp only [subl_length, cpl_length, List.length_set, List.length_append, List.length_cons, List.length_nil, List.length_replicate, row_len]; omega) | (simp only [subl_length, cpl_length, List.length_set, List.length_append, List.length_cons, List.length_nil, List.length_replicate, row_len]; done)) (app_le c14 rfl) rfl rfl rfl) (Take.cons _ _ _ _ _ Rem.p0 (Take.cons _ _ _ _ _ Rem.p2 (Take.nil _))) (fun β22 => ?_)
 refine GoP.oneC rfl trivial (ef_call rfl (Take.nil _) (Take.cons _ _ _ _ _ Rem.p0 (Take.nil _)) (match_Most_spec m n (r9 ++ ([a] : List Arc)) e18) (LendL.cons (Lend.refl _ _) (LendL.cons (Lend.refl _ _) (LendL.cons (Lend.all' At.p0 (by first | rfl | omega | (simp only [subl_length, cpl_length, List.length_set, List.length_append, List.length_cons, List.length_nil, List.length_replicate, row_len] <;> first | rfl | omega)) rfl) (LendL.nil)))) rfl (match_Most_I (r15, r17))) (Take.cons _ _ _ _ _ Rem.p3 (Take.nil _)) (fun rr HH hp => ?_)
 obtain ⟨β16, rfl, rfl⟩ := hp
 refine GoP.qN rfl (ps_move rfl rfl) ?_
 refine GoP.qN rfl (ps_extract rfl rfl rfl) ?_
 refine GoP.qN rfl (ps_extract rfl rfl rfl) ?_
 refine GoP.qN rfl (ps_assign rfl rfl) ?_
 refine GoP.qN rfl (ps_assign rfl rfl) ?_
 refine GoP.done (GoK.le ?_ (hQ β10 β19 β22 β16))
 refine Le.ofDW ?_ (TkD.cons _ _ _ _ _ Rem.p0 (HLe.refl _) (TkD.cons _ _ _ _ _ Rem.p0 (HLe.refl _) (TkD.cons _ _ _ _ _ Rem.p0 (HLe.refl _) (TkD.cons _ _ _ _ _ Rem.p0 (HLe.refl _) (TkD.cons _ _ _ _ _ Rem.p0 (HLe.refl _) (TkD.nil _))))))
 repeat (first | exact EnvLeW.nil | refine EnvLeW.cons rfl ?_ | refine EnvLeW.skip rfl ?_)
 intro β10 β20 β21 β16
 refine GoK.code ?_
 refine GoC.seq ?_
 refine GoC.seq ?_
 refine GoC.region ?_
 refine GoO.pure (ps_move rfl rfl) ?_
 refine GoO.pure (ps_neq rfl rfl rfl) ?_
 refine GoO.nil ?_
 refine GoK.code ?_
 refine GoC.condD rfl (fun h23 => ?_) (fun h23 => ?_)
 replace H := ite_t h23 H
 refine GoC.seq ?_
 refine GoC.region ?_
 refine GoO.pure (ps_move rfl rfl) ?_
 refine GoO.pure (ps_len rfl (by constructor) rfl) ?_
 refine GoO.lenLe (n := r5.length) (x := .tmp 40) rfl (by constructor) own_lenLe (fun ml24 => ?_)
 refine GoO.pure (ps_eql rfl rfl rfl) ?_
 refine GoO.pure (ps_assign rfl rfl) ?_
 refine GoO.nil ?_
 refine GoK.code ?_
 obtain rfl := Option.some.inj H
 exact GoC.retL (ds := [.v (.bool (decide (((r5.length : Nat) : Int) = 0)))]) Try.results10 (ResL.cons (ResD.tmp rfl) (ResL.nil)) (Take.nil _) ⟨rfl, rfl⟩
 replace H := ite_f h23 H
 refine GoC.skip ?_
 refine GoK.code ?_
 refine GoC.seq ?_
 refine GoC.region ?_
 refine GoO.pure (ps_assign rfl rfl) ?_
 refine GoO.nil ?_
 refine GoK.code ?_
 refine GoC.seq ?_
 refine GoC.seq ?_
 refine GoC.region ?_
 refine GoO.pure (ps_move rfl rfl) ?_
 refine GoO.pure (ps_len rfl (by constructor) rfl) ?_
 refine GoO.lenLe (n := l.length) (x := .tmp 43) rfl (by constructor) sl_lenLe (fun ml25 => ?_)
 refine GoO.pure (ps_move rfl rfl) ?_
 refine GoO.nil ?_
 refine GoK.code ?_
 have hb := bind_l H; clear H
 obtain ⟨l31, hl38, HK28⟩ := hb
 refine GoC.blockJ [(0, .v (.int .i64 m)), (1, .v (.int .i64 n)), (9, .own β6 1 0 r5.length), (11, .own β16 1 0 r15.length), (12, .v (.int .i64 r17))] [.one β16 3 1 (row r15), .one β21 46 3 (row (r9 ++ ([a] : List Arc))), .one β20 46 3 (row ([a] : List Arc)), .one β6 3 1 (row r5), .one β1 46 3 (st1 (nth [.v (.int .i64 a.f), .v (.int .i64 a.t), .v (.int .i64 a.c)]))] (fun v h => ∃ (β26 : BK), v = [(13, .own β26 3 0 l31.length)] ∧ h = [.one β26 46 3 (row l31)]) ?_ ?_
 refine GoC.loopJ [(0, _), (1, _), (9, _), (11, _), (12, _), (43, _), (44, _)] [.one β16 3 1 (row r15), .one β21 46 3 (row (r9 ++ ([a] : List Arc))), .one β20 46 3 (row ([a] : List Arc)), .one β6 3 1 (row r5), .one β1 46 3 (st1 (nth [.v (.int .i64 a.f), .v (.int .i64 a.t), .v (.int .i64 a.c)]))] (fun mQ v h => ∃ (k32 : Nat) (l27 : (List Arc)) (β26 : BK), (k32 + mQ = l.length ∧ forN (weirkeep_MatchMore_B1 l) mQ k32 l27 = some l31) ∧ v = [(45, .v (.int .i64 ((k32 : Nat) : Int))), (13, .own β26 3 0 l27.length)] ∧ h = [.one β26 46 3 (row l27)]) l.length ⟨_, _, ⟨0, 0, 0⟩, ⟨by omega, hl38⟩, rfl, rfl⟩ (EnvD.eq rfl (EnvD.cons rfl (DLe.nilOwn) (EnvD.eq rfl (EnvD.eq rfl (EnvD.eq rfl (EnvD.eq rfl (EnvD.eq rfl (EnvD.eq rfl (EnvD.eq rfl (EnvD.nil)))))))))) (TkD.no _ _ _ _ _ rfl (TkD.cons _ _ _ _ _ Rem.p0 (HLe.refl _) (TkD.cons _ _ _ _ _ Rem.p0 (HLe.refl _) (TkD.cons _ _ _ _ _ Rem.p0 (HLe.refl _) (TkD.cons _ _ _ _ _ Rem.p0 (HLe.refl _) (TkD.cons _ _ _ _ _ Rem.p0 (HLe.st ⟨⟨⟨trivial, DLe.refl _⟩, DLe.refl _⟩, DLe.refl _⟩) (TkD.nil _))))))) ?_
 rintro m33 v h ⟨k32, l27, β26, ⟨hkk32, hF29⟩, rfl, rfl⟩
 refine GoC.seq ?_
 refine GoC.region ?_
 refine GoO.pure (ps_lss rfl rfl rfl) ?_
 refine GoO.nil ?_
 refine GoK.code ?_
 refine GoC.seq ?_
 refine GoC.condD rfl (fun (hk32 : (k32 : Int) < ((l.length : Nat) : Int)) => ?_) (fun (hk32 : ¬ (k32 : Int) < ((l.length : Nat) : Int)) => ?_)
 obtain ⟨m33', rfl⟩ : ∃ x, m33 = x + 1 := ⟨m33 - 1, by omega⟩
 have hb := bind_l hF29; clear hF29
 obtain ⟨qrm33, H, hF29⟩ := hb
 have hnk32 : k32 < l.length := by omega
 have hIk32 : InI ((k32 : Int) + 1) := inI_len hk32 ml25
 refine GoC.skip ?_
 refine GoK.code ?_
 refine GoC.seq ?_
 refine GoC.block ?_
 refine GoC.seq ?_
 refine GoC.region ?_
 refine GoO.pure (ps_indexAddrRN rfl rfl hnk32 rfl) ?_
 refine GoO.pure (ps_loadAgR rfl hnk32 rfl rfl) ?_
 refine GoO.effB (ef_alloc rfl) (fun β34 => ?_)
 refine GoO.eff1 (ef_storeAg rfl rfl At.p0 upd_whole Nat.zero_lt_one rfl) ?_
 refine GoO.nil ?_
 refine GoK.code ?_
 refine GoC.region ?_
 refine GoO.pure (ps_move rfl rfl) ?_
 refine GoO.pure (ps_fieldAddr rfl rfl) ?_
 refine GoO.pure (ps_load rfl At.p0 At.p0 Nat.zero_lt_one rfl rfl) ?_
 refine GoO.pure (ps_fieldAddr rfl rfl) ?_
 refine GoO.pure (ps_load rfl At.p0 At.p0 Nat.zero_lt_one rfl rfl) ?_
 refine GoO.pure (ps_build (Parts.cons _ _ _ _ _ _ _ _ FdP.of (Part.one _ rfl rfl) rfl rfl (Parts.cons _ _ _ _ _ _ _ _ FdP.of (Part.one _ rfl rfl) rfl rfl (Parts.nil _))) rfl) ?_
 refine GoO.effB (ef_buildSlice (row ([(⟨(l.getD k32 El.d).t, (l.getD k32 El.d).f, 0⟩ : Arc)] : List Arc)) rfl (Parts.cons _ _ _ _ _ _ _ _ ⟨rfl, rfl⟩ (Part.ag _ _ rfl) rfl rfl (Parts.nil _)) rfl rfl rfl rfl) (fun β35 => ?_)
 have c37 := ck_l H; replace H := ck_r H
 refine GoO.effB (ef_append rfl rfl Rem.p2 (Src.own At.p0 (by first | omega | (simp only [subl_length, cpl_length, List.length_set, List.length_append, List.length_cons, List.length_nil, List.length_replicate, row_len]; omega) | (simp only [subl_length, cpl_length, List.length_set, List.length_append, List.length_cons, List.length_nil, List.length_replicate, row_len]; done))) (cat_row (α := Arc) (by first | rfl | omega | (simp only [subl_length, cpl_length, List.length_set, List.length_append, List.length_cons, List.length_nil, List.length_replicate, row_len] <;> first | rfl | omega)) (by first | rfl | omega | (simp only [subl_length, cpl_length, List.length_set, List.length_append, List.length_cons, List.length_nil, List.length_replicate, row_len] <;> first | rfl | omega)) (fun _ _ _ _ => rfl)) (by first | omega | (simp only [subl_length, cpl_length, List.length_set, List.length_append, List.length_cons, List.length_nil, List.length_replicate, row_len]; omega) | (simp only [subl_length, cpl_length, List.length_set, List.length_append, List.length_cons, List.length_nil, List.length_replicate, row_len]; done)) (app_le c37 rfl) rfl rfl rfl) (fun β36 => ?_)
 refine GoO.pure (ps_assign rfl rfl) ?_
 refine GoO.nil ?_
 refine GoK.blk ?_
 refine GoK.code ?_
 refine GoC.region ?_
 refine GoO.pure (ps_add rfl rfl rfl hIk32) ?_
 refine GoO.pure (ps_move rfl rfl) ?_
 refine GoO.nil ?_
 obtain rfl := Option.some.inj H
 exact GoK.againJ m33' (by omega) ⟨_, _, β36, ⟨by omega, hF29⟩, rfl, rfl⟩ (EnvD.eq rfl (EnvD.cons rfl (DLe.len (by first | rfl | omega | (simp only [row_len, List.length_append, List.length_cons, List.length_nil] <;> first | rfl | omega))) (EnvD.eq rfl (EnvD.eq rfl (EnvD.eq rfl (EnvD.eq rfl (EnvD.eq rfl (EnvD.eq rfl (EnvD.eq rfl (EnvD.nil)))))))))) (TkD.cons _ _ _ _ _ Rem.p0 (HLe.refl _) (TkD.cons _ _ _ _ _ Rem.p2 (HLe.refl _) (TkD.cons _ _ _ _ _ Rem.p2 (HLe.refl _) (TkD.cons _ _ _ _ _ Rem.p2 (HLe.refl _) (TkD.cons _ _ _ _ _ Rem.p2 (HLe.refl _) (TkD.cons _ _ _ _ _ Rem.p2 (HLe.st ⟨⟨⟨trivial, DLe.refl _⟩, DLe.refl _⟩, DLe.refl _⟩) (TkD.nil _)))))))
 obtain rfl : m33 = 0 := by omega
 refine GoC.exit rfl ?_
 cases hF29
 exact GoK.meet ⟨β26, rfl, rfl⟩ (EnvD.cons rfl (DLe.len (by first | rfl | omega | (simp only [row_len] <;> first | rfl | omega))) (EnvD.eq rfl (EnvD.eq rfl (EnvD.eq rfl (EnvD.eq rfl (EnvD.eq rfl (EnvD.nil))))))) (TkD.cons _ _ _ _ _ Rem.p0 (HLe.refl _) (TkD.cons _ _ _ _ _ Rem.p0 (HLe.refl _) (TkD.cons _ _ _ _ _ Rem.p0 (HLe.refl _) (TkD.cons _ _ _ _ _ Rem.p0 (HLe.refl _) (TkD.cons _ _ _ _ _ Rem.p0 (HLe.refl _) (TkD.cons _ _ _ _ _ Rem.p0 (HLe.st ⟨⟨⟨trivial, DLe.refl _⟩, DLe.refl _⟩, DLe.refl _⟩) (TkD.nil _)))))))
 rintro v h ⟨β26, rfl, rfl⟩
 have H := HK28; clear HK28
 refine GoK.code ?_
 refine GoC.seq ?_
 refine GoC.region ?_
 refine GoO.pure (ps_move rfl rfl) ?_
 refine GoO.pure (ps_move rfl rfl) ?_
 refine GoO.pure (ps_move rfl rfl) ?_
 have hb := bind_l H; clear H
 obtain ⟨⟨r39, r41⟩, e42, H⟩ := hb
 refine GoO.effC (ef_call rfl (Take.nil _) (Take.cons _ _ _ _ _ Rem.p0 (Take.nil _)) (match_Most_spec n m l31 e42) (LendL.cons (Lend.refl _ _) (LendL.cons (Lend.refl _ _) (LendL.cons (Lend.all' At.p0 (by first | rfl | omega | (simp only [subl_length, cpl_length, List.length_set, List.length_append, List.length_cons, List.length_nil, List.length_replicate, row_len] <;> first | rfl | omega)) rfl) (LendL.nil)))) rfl (match_Most_I (r39, r41))) (fun rr HH hp => ?_)
 obtain ⟨β40, rfl, rfl⟩ := hp
 refine GoO.pure (ps_move rfl rfl) ?_
 refine GoO.pure (ps_extract rfl rfl rfl) ?_
 refine GoO.pure (ps_extract rfl rfl rfl) ?_
 refine GoO.pure (ps_assign rfl rfl) ?_
 refine GoO.pure (ps_assign rfl rfl) ?_
 refine GoO.nil ?_
 refine GoK.code ?_
 refine GoC.seq ?_
 refine GoC.region ?_
 refine GoO.pure (ps_move rfl rfl) ?_
 refine GoO.pure (ps_eql rfl rfl rfl) ?_
 refine GoO.pure (ps_move rfl rfl) ?_
 refine GoO.guardD rfl rfl rfl rfl (fun h43 => ?_) (fun h43 => ?_)
 replace H := ite_t h43 H
 refine GoO.pure (ps_move rfl rfl) ?_
 refine GoO.guardT rfl rfl rfl ?_
 refine GoO.pure (ps_len rfl (by constructor) rfl) ?_
 refine GoO.lenLe (n := r39.length) (x := .tmp 68) rfl (by constructor) own_lenLe (fun ml44 => ?_)
 refine GoO.guardT rfl rfl rfl ?_
 refine GoO.pure (ps_move rfl rfl) ?_
 refine GoO.guardT rfl rfl rfl ?_
 refine GoO.pure (ps_len rfl (by constructor) rfl) ?_
 refine GoO.lenLe (n := r5.length) (x := .tmp 70) rfl (by constructor) own_lenLe (fun ml45 => ?_)
 refine GoO.guardT rfl rfl rfl ?_
 refine GoO.pure (ps_eql rfl rfl rfl) ?_
 refine GoO.pure (ps_pickT rfl rfl rfl) ?_
 refine GoO.pure (ps_move rfl rfl) ?_
 refine GoO.guardD rfl rfl rfl rfl (fun h46 => ?_) (fun h46 => ?_)
 replace H := ite_t h46 H
 refine GoO.pure (ps_move rfl rfl) ?_
 refine GoO.guardT rfl rfl rfl ?_
 refine GoO.pure (ps_neq rfl rfl rfl) ?_
 refine GoO.guardT rfl rfl rfl ?_
 refine GoO.pure (ps_move rfl rfl) ?_
 refine GoO.guardE rfl rfl rfl rfl (fun h47 => ?_) (fun h47 => ?_)
 replace H := ite_f h47 H
 refine GoO.pure (ps_move rfl rfl) ?_
 refine GoO.guardT rfl rfl rfl ?_
 refine GoO.pure (ps_len rfl (by constructor) rfl) ?_
 refine GoO.guardT rfl rfl rfl ?_
 refine GoO.pure (ps_move rfl rfl) ?_
 refine GoO.guardT rfl rfl rfl ?_
 refine GoO.pure (ps_len rfl (by constructor) rfl) ?_
 refine GoO.lenLe (n := r15.length) (x := .tmp 80) rfl (by constructor) own_lenLe (fun ml48 => ?_)
 refine GoO.guardT rfl rfl rfl ?_
 refine GoO.pure (ps_leq rfl rfl rfl) ?_
 refine GoO.guardT rfl rfl rfl ?_
 refine GoO.pure (ps_move rfl rfl) ?_
 refine GoO.guardD rfl rfl rfl rfl (fun h49 => ?_) (fun h49 => ?_)
 replace H := ite_t h49 H
 refine GoO.pure (ps_move rfl rfl) ?_
 refine GoO.guardT rfl rfl rfl ?_
 refine GoO.pure (ps_len rfl (by constructor) rfl) ?_
 refine GoO.guardT rfl rfl rfl ?_
 refine GoO.pure (ps_move rfl rfl) ?_
 refine GoO.guardT rfl rfl rfl ?_
 refine GoO.pure (ps_len rfl (by constructor) rfl) ?_
 refine GoO.guardT rfl rfl rfl ?_
 have c50 := ck_l H; replace H := ck_r H
 refine GoO.pure (ps_add rfl rfl rfl c50) ?_
 refine GoO.guardT rfl rfl rfl ?_
 refine GoO.pure (ps_leq rfl rfl rfl) ?_
 refine GoO.guardT rfl rfl rfl ?_
 refine GoO.pure (ps_pickT rfl rfl rfl) ?_
 refine GoO.guardT rfl rfl rfl ?_
 refine GoO.pure (ps_pickF rfl rfl rfl) ?_
 refine GoO.pure (ps_pickT rfl rfl rfl) ?_
 refine GoO.pure (ps_assign rfl rfl) ?_
 refine GoO.nil ?_
 refine GoK.code ?_
 obtain rfl := Option.some.inj H
 exact GoC.retL (ds := [.v (.bool (decide (((r15.length : Nat) : Int) ≤ (((r5.length + 1) : Nat) : Int))))]) Try.results10 (ResL.cons (ResD.tmp rfl) (ResL.nil)) (Take.nil _) ⟨rfl, rfl⟩
 replace H := ite_f h49 H
 refine GoO.guardF rfl rfl rfl rfl ?_
 refine GoO.guardF rfl rfl rfl rfl ?_
 refine GoO.guardF rfl rfl rfl rfl ?_
 refine GoO.guardF rfl rfl rfl rfl ?_
 refine GoO.guardF rfl rfl rfl rfl ?_
 refine GoO.guardT rfl rfl rfl ?_
 refine GoO.pure (ps_pickF rfl rfl rfl) ?_
 refine GoO.guardT rfl rfl rfl ?_
 refine GoO.pure (ps_pickF rfl rfl rfl) ?_
 refine GoO.pure (ps_pickT rfl rfl rfl) ?_
 refine GoO.pure (ps_assign rfl rfl) ?_
 refine GoO.nil ?_
 refine GoK.code ?_
 obtain rfl := Option.some.inj H
 exact GoC.retL (ds := [.v (.bool false)]) Try.results10 (ResL.cons (ResD.tmp rfl) (ResL.nil)) (Take.nil _) ⟨rfl, rfl⟩
 replace H := ite_t h47 H
 refine GoO.guardF rfl rfl rfl rfl ?_
 refine GoO.guardF rfl rfl rfl rfl ?_
 refine GoO.guardF rfl rfl rfl rfl ?_
 refine GoO.guardF rfl rfl rfl rfl ?_
 refine GoO.guardF rfl rfl rfl rfl ?_
 refine GoO.guardU rfl rfl rfl rfl ?_
 refine GoO.guardU rfl rfl rfl rfl ?_
 refine GoO.guardU rfl rfl rfl rfl ?_
 refine GoO.guardU rfl rfl rfl rfl ?_
 refine GoO.guardU rfl rfl rfl rfl ?_
 refine GoO.guardU rfl rfl rfl rfl ?_
 refine GoO.guardF rfl rfl rfl rfl ?_
 refine GoO.guardT rfl rfl rfl ?_
 refine GoO.pure (ps_pickT rfl rfl rfl) ?_
 refine GoO.pure (ps_pickT rfl rfl rfl) ?_
 refine GoO.pure (ps_assign rfl rfl) ?_
 refine GoO.nil ?_
 refine GoK.code ?_
 obtain rfl := Option.some.inj H
 exact GoC.retL (ds := [.v (.bool true)]) Try.results10 (ResL.cons (ResD.tmp rfl) (ResL.nil)) (Take.nil _) ⟨rfl, rfl⟩
 replace H := ite_f h46 H
 refine GoO.guardF rfl rfl rfl rfl ?_
 refine GoO.guardF rfl rfl rfl rfl ?_
 refine GoO.guardU rfl rfl rfl rfl ?_
 refine GoO.guardU rfl rfl rfl rfl ?_
 refine GoO.guardU rfl rfl rfl rfl ?_
 refine GoO.guardU rfl rfl rfl rfl ?_
 refine GoO.guardU rfl rfl rfl rfl ?_
 refine GoO.guardU rfl rfl rfl rfl ?_
 refine GoO.guardU rfl rfl rfl rfl ?_
 refine GoO.guardU rfl rfl rfl rfl ?_
 refine GoO.guardU rfl rfl rfl rfl ?_
 refine GoO.guardU rfl rfl rfl rfl ?_
 refine GoO.guardU rfl rfl rfl rfl ?_
 refine GoO.guardU rfl rfl rfl rfl ?_
 refine GoO.guardU rfl rfl rfl rfl ?_
 refine GoO.guardF rfl rfl rfl rfl ?_
 refine GoO.pure (ps_pickF rfl rfl rfl) ?_
 refine GoO.pure (ps_assign rfl rfl) ?_
 refine GoO.nil ?_
 refine GoK.code ?_
 obtain rfl := Option.some.inj H
 exact GoC.retL (ds := [.v (.bool false)]) Try.results10 (ResL.cons (ResD.tmp rfl) (ResL.nil)) (Take.nil _) ⟨rfl, rfl⟩
 replace H := ite_f h43 H
 refine GoO.guardF rfl rfl rfl rfl ?_
 refine GoO.guardF rfl rfl rfl rfl ?_
 refine GoO.guardF rfl rfl rfl rfl ?_
 refine GoO.guardF rfl rfl rfl rfl ?_
 refine GoO.pure (ps_pickF rfl rfl rfl) ?_
 refine GoO.pure (ps_move rfl rfl) ?_
 refine GoO.guardF rfl rfl rfl rfl ?_
 refine GoO.guardF rfl rfl rfl rfl ?_
 refine GoO.guardF rfl rfl rfl rfl ?_
 refine GoO.guardU rfl rfl rfl rfl ?_
 refine GoO.guardU rfl rfl rfl rfl ?_
 refine GoO.guardU rfl rfl rfl rfl ?_
 refine GoO.guardU rfl rfl rfl rfl ?_
 refine GoO.guardU rfl rfl rfl rfl ?_
 refine GoO.guardU rfl rfl rfl rfl ?_
 refine GoO.guardU rfl rfl rfl rfl ?_
 refine GoO.guardU rfl rfl rfl rfl ?_
 refine GoO.guardU rfl rfl rfl rfl ?_
 refine GoO.guardU rfl rfl rfl rfl ?_
 refine GoO.guardU rfl rfl rfl rfl ?_
 refine GoO.guardU rfl rfl rfl rfl ?_
 refine GoO.guardU rfl rfl rfl rfl ?_
 refine GoO.guardF rfl rfl rfl rfl ?_
 refine GoO.pure (ps_pickF rfl rfl rfl) ?_
 refine GoO.pure (ps_assign rfl rfl) ?_
 refine GoO.nil ?_
 refine GoK.code ?_
 obtain rfl := Option.some.inj H
 exact GoC.retL (ds := [.v (.bool false)]) Try.results10 (ResL.cons (ResD.tmp rfl) (ResL.nil)) (Take.nil _) ⟨rfl, rfl⟩

end Go.Proofs.Ythgjamhcnaamdaa
