/- The functions weirkeep.MatchHolds, told as plain functions, and that the code does as they say. -/
import Derived.Test.YthgjamhcnaamdaaTys
import Derived.Test.YthgjamhcnaamdaaDat
import Derived.Test.YthgjamhcnaamdaaGkeep
import Derived.Test.YthgjamhcnaamdaaGmatch
import Derived.Test.YthgjamhcnaamdaaGref
namespace Go.Proofs.Ythgjamhcnaamdaa
open Go Go.Proofs.Ythgjamhcnaamdaa.Sx
set_option linter.unusedVariables false
set_option linter.unusedSimpArgs false
def weirkeep_MatchHolds_B1 (l : (List Arc)) (x : Int) (y : Int) (r4 : (List Int)) (r8 : Int) (r9 : Int) : Nat → Unit → Option (Ct (Unit) (Bool)) := fun k20 _ =>
 ((
  ck (0 ≤ ((l.getD k20 El.d).f)) <|
  if (bitsOf .and .u16 (Int.fdiv r8 (2 ^ min (((l.getD k20 El.d).f).toNat) 16)) 1) = 0 then
   ck (0 ≤ ((l.getD k20 El.d).t)) <|
   if (bitsOf .and .u16 (Int.fdiv r9 (2 ^ min (((l.getD k20 El.d).t).toNat) 16)) 1) = 0 then
    some (.ret (.ret false))
   else
    some (.go ())
  else
   some (.go ())) : Option (Ex (Unit) (Ct (Unit) (Bool)))).bind fun q => match q with
 | .go () =>
  ck (0 ≤ ((l.getD k20 El.d).f)) <|
  if (bitsOf .and .u16 (Int.fdiv x (2 ^ min (((l.getD k20 El.d).f).toNat) 16)) 1) = 0 then
   ck (0 ≤ ((l.getD k20 El.d).t)) <|
   if (bitsOf .and .u16 (Int.fdiv y (2 ^ min (((l.getD k20 El.d).t).toNat) 16)) 1) = 0 then
    (weirref_Ones_F (IntKind.i64.wrap r8)).bind fun r33 =>
    (weirref_Ones_F (IntKind.i64.wrap r9)).bind fun r35 =>
    ck (InI (r33 + r35)) <|
    some (.ret (decide ((r33 + r35) = ((r4.length : Nat) : Int))))
   else
    some (.go ())
  else
   some (.go ())
 | .ret x => some x
def weirkeep_MatchHolds_F (m : Int) (n : Int) (l : (List Arc)) (x : Int) (y : Int) : Option (Bool) :=
 (weirkeep_mates_F).bind fun r1 =>
 if (!r1) = true then
  some false
 else
  (match_Most_F m n l).bind fun (r4, r6) =>
  (match_Hold_F m n l).bind fun (r8, r9, r10) =>
  if r6 ≠ 0 then
   if r6 = r10 then
    some (decide (((r4.length : Nat) : Int) = 0))
   else
    some false
  else
   if r10 ≠ 0 then
    if r6 = r10 then
     some (decide (((r4.length : Nat) : Int) = 0))
    else
     some false
   else
    (forC (weirkeep_MatchHolds_B1 l x y r4 r8 r9) l.length 0 ()).bind fun q => match q with
    | .go _ =>
     (weirref_Ones_F (IntKind.i64.wrap r8)).bind fun r40 =>
     (weirref_Ones_F (IntKind.i64.wrap r9)).bind fun r42 =>
     ck (InI (r40 + r42)) <|
     if (r40 + r42) = ((r4.length : Nat) : Int) then
      (weirref_Ones_F (IntKind.i64.wrap x)).bind fun r47 =>
      (weirref_Ones_F (IntKind.i64.wrap y)).bind fun r49 =>
      ck (InI (r47 + r49)) <|
      some (decide (((r4.length : Nat) : Int) ≤ (r47 + r49)))
     else
      some false
    | .ret x => some x
def weirkeep_MatchHolds_P (out : Bool) (d : D) (H : List HL) : Prop := d = .v (.bool out) ∧ H = []
theorem weirkeep_MatchHolds_I (out : Bool) : IndepP (weirkeep_MatchHolds_P out) := IndepP.of (by rintro _ _ ⟨rfl, rfl⟩; exact ⟨inferInstance, inferInstance⟩)
set_option maxRecDepth 100000 in
set_option maxHeartbeats 4000000 in
theorem weirkeep_MatchHolds_spec (m : Int) (n : Int) (l : (List Arc)) (x : Int) (y : Int) {out : Bool} (H : weirkeep_MatchHolds_F m n l x y = some out) : Does Try.prog 11 [.v (.int .i64 m), .v (.int .i64 n), slD l, .v (.int .u16 x), .v (.int .u16 y)] [] (weirkeep_MatchHolds_P out) := by
 unfold weirkeep_MatchHolds_F at H
 refine Does.intro Try.func11 rfl Try.ntmps11 rfl fun w0 I0 => ?_
 refine GoC.seq ?_
 refine GoC.region ?_
 refine GoO.pure (ps_assign rfl rfl) ?_
 refine GoO.nil ?_
 refine GoK.code ?_
 refine GoC.seq ?_
 refine GoC.seq ?_
 refine GoC.region ?_
 have hb := bind_l H; clear H
 obtain ⟨r1, e2, H⟩ := hb
 refine GoO.effC (ef_call rfl (Take.nil _) (Take.nil _) (weirkeep_mates_spec e2) (LendL.nil) rfl (weirkeep_mates_I (r1))) (fun rr HH hp => ?_)
 obtain ⟨rfl, rfl⟩ := hp
 refine GoO.pure (ps_not rfl rfl) ?_
 refine GoO.nil ?_
 refine GoK.code ?_
 refine GoC.cond rfl (fun h3 => ?_) (fun h3 => ?_)
 replace H := itb_t h3 H
 refine GoC.seq ?_
 refine GoC.region ?_
 refine GoO.pure (ps_assign rfl rfl) ?_
 refine GoO.nil ?_
 refine GoK.code ?_
 obtain rfl := Option.some.inj H
 exact GoC.retL (ds := [.v (.bool false)]) Try.results11 (ResL.cons (ResD.tmp rfl) (ResL.nil)) (Take.nil _) ⟨rfl, rfl⟩
 replace H := itb_f h3 H
 refine GoC.skip ?_
 refine GoK.code ?_
 refine GoC.seq ?_
 refine GoC.region ?_
 refine GoO.pure (ps_move rfl rfl) ?_
 refine GoO.pure (ps_move rfl rfl) ?_
 refine GoO.pure (ps_move rfl rfl) ?_
 have hb := bind_l H; clear H
 obtain ⟨⟨r4, r6⟩, e7, H⟩ := hb
 refine GoO.effC (ef_call rfl (Take.nil _) (Take.nil _) (match_Most_spec m n l e7) (LendL.cons (Lend.refl _ _) (LendL.cons (Lend.refl _ _) (LendL.cons (Lend.refl _ _) (LendL.nil)))) rfl (match_Most_I (r4, r6))) (fun rr HH hp => ?_)
 obtain ⟨β5, rfl, rfl⟩ := hp
 refine GoO.pure (ps_move rfl rfl) ?_
 refine GoO.pure (ps_extract rfl rfl rfl) ?_
 refine GoO.pure (ps_extract rfl rfl rfl) ?_
 refine GoO.pure (ps_assign rfl rfl) ?_
 refine GoO.pure (ps_assign rfl rfl) ?_
 refine GoO.nil ?_
 refine GoK.code ?_
 refine GoC.seq ?_
 refine GoC.region ?_
 refine GoO.pure (ps_move rfl rfl) ?_
 refine GoO.pure (ps_move rfl rfl) ?_
 refine GoO.pure (ps_move rfl rfl) ?_
 have hb := bind_l H; clear H
 obtain ⟨⟨r8, r9, r10⟩, e11, H⟩ := hb
 refine GoO.effC (ef_call rfl (Take.nil _) (Take.nil _) (match_Hold_spec m n l e11) (LendL.cons (Lend.refl _ _) (LendL.cons (Lend.refl _ _) (LendL.cons (Lend.refl _ _) (LendL.nil)))) rfl (match_Hold_I (r8, r9, r10))) (fun rr HH hp => ?_)
 obtain ⟨rfl, rfl⟩ := hp
 refine GoO.pure (ps_move rfl rfl) ?_
 refine GoO.pure (ps_extract rfl rfl rfl) ?_
 refine GoO.pure (ps_extract rfl rfl rfl) ?_
 refine GoO.pure (ps_extract rfl rfl rfl) ?_
 refine GoO.pure (ps_assign rfl rfl) ?_
 refine GoO.pure (ps_assign rfl rfl) ?_
 refine GoO.pure (ps_assign rfl rfl) ?_
 refine GoO.nil ?_
 refine GoK.code ?_
 refine GoC.seq ?_
 refine GoC.seq ?_
 refine GoC.region ?_
 refine GoO.pure (ps_move rfl rfl) ?_
 refine GoO.pure (ps_neq rfl rfl rfl) ?_
 refine GoO.pure (ps_move rfl rfl) ?_
 refine GoO.guardE rfl rfl rfl rfl (fun h12 => ?_) (fun h12 => ?_)
 replace H := ite_f h12 H
 refine GoO.pure (ps_move rfl rfl) ?_
 refine GoO.guardT rfl rfl rfl ?_
 refine GoO.pure (ps_neq rfl rfl rfl) ?_
 refine GoO.pure (ps_pickF rfl rfl rfl) ?_
 refine GoO.nil ?_
 refine GoK.code ?_
 refine GoC.condD rfl (fun h13 => ?_) (fun h13 => ?_)
 replace H := ite_t h13 H
 refine GoC.seq ?_
 refine GoC.region ?_
 refine GoO.pure (ps_move rfl rfl) ?_
 refine GoO.pure (ps_move rfl rfl) ?_
 refine GoO.pure (ps_eql rfl rfl rfl) ?_
 refine GoO.pure (ps_move rfl rfl) ?_
 refine GoO.guardD rfl rfl rfl rfl (fun h14 => ?_) (fun h14 => ?_)
 replace H := ite_t h14 H
 refine GoO.pure (ps_move rfl rfl) ?_
 refine GoO.guardT rfl rfl rfl ?_
 refine GoO.pure (ps_len rfl (by constructor) rfl) ?_
 refine GoO.lenLe (n := r4.length) (x := .tmp 45) rfl (by constructor) own_lenLe (fun ml15 => ?_)
 refine GoO.guardT rfl rfl rfl ?_
 refine GoO.pure (ps_eql rfl rfl rfl) ?_
 refine GoO.pure (ps_pickT rfl rfl rfl) ?_
 refine GoO.pure (ps_assign rfl rfl) ?_
 refine GoO.nil ?_
 refine GoK.code ?_
 obtain rfl := Option.some.inj H
 exact GoC.retL (ds := [.v (.bool (decide (((r4.length : Nat) : Int) = 0)))]) Try.results11 (ResL.cons (ResD.tmp rfl) (ResL.nil)) (Take.nil _) ⟨rfl, rfl⟩
 replace H := ite_f h14 H
 refine GoO.guardF rfl rfl rfl rfl ?_
 refine GoO.guardF rfl rfl rfl rfl ?_
 refine GoO.pure (ps_pickF rfl rfl rfl) ?_
 refine GoO.pure (ps_assign rfl rfl) ?_
 refine GoO.nil ?_
 refine GoK.code ?_
 obtain rfl := Option.some.inj H
 exact GoC.retL (ds := [.v (.bool false)]) Try.results11 (ResL.cons (ResD.tmp rfl) (ResL.nil)) (Take.nil _) ⟨rfl, rfl⟩
 replace H := ite_f h13 H
 refine GoC.skip ?_
 refine GoK.code ?_
 refine GoC.seq ?_
 refine GoC.seq ?_
 refine GoC.region ?_
 refine GoO.pure (ps_move rfl rfl) ?_
 refine GoO.pure (ps_len rfl (by constructor) rfl) ?_
 refine GoO.lenLe (n := l.length) (x := .tmp 49) rfl (by constructor) sl_lenLe (fun ml16 => ?_)
 refine GoO.pure (ps_move rfl rfl) ?_
 refine GoO.nil ?_
 refine GoK.code ?_
 have hb := bind_l H; clear H
 obtain ⟨q19, hl39, HK17⟩ := hb
 refine GoC.blockJ [(3, .v (.int .u16 x)), (4, .v (.int .u16 y)), (11, .own β5 1 0 r4.length), (13, .v (.int .u16 r8)), (14, .v (.int .u16 r9))] [.one β5 3 1 (row r4)] (fun v h => q19 = .go () ∧ v = [] ∧ h = []) ?_ ?_
 refine GoC.loopJ [(3, _), (4, _), (11, _), (13, _), (14, _), (49, _), (50, _)] [.one β5 3 1 (row r4)] (fun mQ v h => ∃ (k20 : Nat), (k20 + mQ = l.length ∧ forC (weirkeep_MatchHolds_B1 l x y r4 r8 r9) mQ k20 () = some q19) ∧ v = [(51, .v (.int .i64 ((k20 : Nat) : Int)))] ∧ h = []) l.length ⟨_, ⟨by omega, hl39⟩, rfl, rfl⟩ (EnvD.eq rfl (EnvD.eq rfl (EnvD.eq rfl (EnvD.eq rfl (EnvD.eq rfl (EnvD.eq rfl (EnvD.eq rfl (EnvD.eq rfl (EnvD.nil))))))))) (TkD.cons _ _ _ _ _ Rem.p0 (HLe.refl _) (TkD.nil _)) ?_
 rintro m21 v h ⟨k20, ⟨hkk20, hF18⟩, rfl, rfl⟩
 refine GoC.seq ?_
 refine GoC.region ?_
 refine GoO.pure (ps_lss rfl rfl rfl) ?_
 refine GoO.nil ?_
 refine GoK.code ?_
 refine GoC.seq ?_
 refine GoC.condD rfl (fun (hk20 : (k20 : Int) < ((l.length : Nat) : Int)) => ?_) (fun (hk20 : ¬ (k20 : Int) < ((l.length : Nat) : Int)) => ?_)
 obtain ⟨m21', rfl⟩ : ∃ x, m21 = x + 1 := ⟨m21 - 1, by omega⟩
 have hb := bind_l hF18; clear hF18
 obtain ⟨qrm21, H, hF18⟩ := hb
 have hnk20 : k20 < l.length := by omega
 have hIk20 : InI ((k20 : Int) + 1) := inI_len hk20 ml16
 refine GoC.skip ?_
 refine GoK.code ?_
 refine GoC.seq ?_
 refine GoC.block ?_
 refine GoC.seq ?_
 refine GoC.region ?_
 refine GoO.pure (ps_indexAddrRN rfl rfl hnk20 rfl) ?_
 refine GoO.pure (ps_loadAgR rfl hnk20 rfl rfl) ?_
 refine GoO.effB (ef_alloc rfl) (fun β22 => ?_)
 refine GoO.eff1 (ef_storeAg rfl rfl At.p0 upd_whole Nat.zero_lt_one rfl) ?_
 refine GoO.nil ?_
 refine GoK.code ?_
 have hb := bind_l H; clear H
 obtain ⟨q24, H, HK23⟩ := hb
 refine GoC.seqJ [(3, .v (.int .u16 x)), (4, .v (.int .u16 y)), (11, .own β5 1 0 r4.length), (13, .v (.int .u16 r8)), (14, .v (.int .u16 r9)), (17, .ptr β22 3 0 0), (49, slD l), (50, .v (.int .i64 ((l.length : Nat) : Int))), (51, .v (.int .i64 ((k20 : Nat) : Int)))] [.one β22 46 3 (st1 (nth [.v (.int .i64 ((l.getD k20 El.d).f)), .v (.int .i64 ((l.getD k20 El.d).t)), .v (.int .i64 ((l.getD k20 El.d).c))])), .one β5 3 1 (row r4)] (fun v h => q24 = .go () ∧ v = [] ∧ h = []) ?_ ?_
 refine GoC.seq ?_
 refine GoC.region ?_
 refine GoO.pure (ps_move rfl rfl) ?_
 refine GoO.pure (ps_fieldAddr rfl rfl) ?_
 refine GoO.pure (ps_load rfl At.p0 At.p0 Nat.zero_lt_one rfl rfl) ?_
 have c25 := ck_l H; replace H := ck_r H
 refine GoO.pure (ps_shr rfl rfl rfl c25) ?_
 refine GoO.pure (ps_and rfl rfl rfl) ?_
 refine GoO.pure (ps_eql rfl rfl rfl) ?_
 refine GoO.pure (ps_move rfl rfl) ?_
 refine GoO.guardD rfl rfl rfl rfl (fun h26 => ?_) (fun h26 => ?_)
 replace H := ite_t h26 H
 refine GoO.pure (ps_move rfl rfl) ?_
 refine GoO.guardT rfl rfl rfl ?_
 refine GoO.pure (ps_fieldAddr rfl rfl) ?_
 refine GoO.guardT rfl rfl rfl ?_
 refine GoO.pure (ps_load rfl At.p0 At.p0 Nat.zero_lt_one rfl rfl) ?_
 refine GoO.guardT rfl rfl rfl ?_
 have c27 := ck_l H; replace H := ck_r H
 refine GoO.pure (ps_shr rfl rfl rfl c27) ?_
 refine GoO.guardT rfl rfl rfl ?_
 refine GoO.pure (ps_and rfl rfl rfl) ?_
 refine GoO.guardT rfl rfl rfl ?_
 refine GoO.pure (ps_eql rfl rfl rfl) ?_
 refine GoO.pure (ps_pickT rfl rfl rfl) ?_
 refine GoO.nil ?_
 refine GoK.code ?_
 refine GoC.condD rfl (fun h28 => ?_) (fun h28 => ?_)
 replace H := ite_t h28 H
 refine GoC.seq ?_
 refine GoC.region ?_
 refine GoO.pure (ps_assign rfl rfl) ?_
 refine GoO.nil ?_
 refine GoK.code ?_
 obtain rfl := Option.some.inj H
 obtain rfl := Option.some.inj HK23
 obtain rfl := Option.some.inj hF18
 obtain rfl := Option.some.inj HK17
 exact GoC.retL (ds := [.v (.bool false)]) Try.results11 (ResL.cons (ResD.tmp rfl) (ResL.nil)) (Take.nil _) ⟨rfl, rfl⟩
 replace H := ite_f h28 H
 refine GoC.skip ?_
 obtain rfl := Option.some.inj H
 exact GoK.meet ⟨rfl, rfl, rfl⟩ (EnvD.eq rfl (EnvD.eq rfl (EnvD.eq rfl (EnvD.eq rfl (EnvD.eq rfl (EnvD.eq rfl (EnvD.eq rfl (EnvD.eq rfl (EnvD.eq rfl (EnvD.nil)))))))))) (TkD.cons _ _ _ _ _ Rem.p0 (HLe.st ⟨⟨⟨trivial, DLe.refl _⟩, DLe.refl _⟩, DLe.refl _⟩) (TkD.cons _ _ _ _ _ Rem.p0 (HLe.refl _) (TkD.nil _)))
 replace H := ite_f h26 H
 refine GoO.guardF rfl rfl rfl rfl ?_
 refine GoO.guardF rfl rfl rfl rfl ?_
 refine GoO.guardF rfl rfl rfl rfl ?_
 refine GoO.guardF rfl rfl rfl rfl ?_
 refine GoO.guardF rfl rfl rfl rfl ?_
 refine GoO.pure (ps_pickF rfl rfl rfl) ?_
 refine GoO.nil ?_
 refine GoK.code ?_
 refine GoC.condF rfl ?_
 refine GoC.skip ?_
 obtain rfl := Option.some.inj H
 exact GoK.meet ⟨rfl, rfl, rfl⟩ (EnvD.eq rfl (EnvD.eq rfl (EnvD.eq rfl (EnvD.eq rfl (EnvD.eq rfl (EnvD.eq rfl (EnvD.eq rfl (EnvD.eq rfl (EnvD.eq rfl (EnvD.nil)))))))))) (TkD.cons _ _ _ _ _ Rem.p0 (HLe.st ⟨⟨⟨trivial, DLe.refl _⟩, DLe.refl _⟩, DLe.refl _⟩) (TkD.cons _ _ _ _ _ Rem.p0 (HLe.refl _) (TkD.nil _)))
 rintro v h ⟨rfl, rfl, rfl⟩
 have H := HK23; clear HK23
 refine GoC.seq ?_
 refine GoC.region ?_
 refine GoO.pure (ps_move rfl rfl) ?_
 refine GoO.pure (ps_fieldAddr rfl rfl) ?_
 refine GoO.pure (ps_load rfl At.p0 At.p0 Nat.zero_lt_one rfl rfl) ?_
 have c29 := ck_l H; replace H := ck_r H
 refine GoO.pure (ps_shr rfl rfl rfl c29) ?_
 refine GoO.pure (ps_and rfl rfl rfl) ?_
 refine GoO.pure (ps_eql rfl rfl rfl) ?_
 refine GoO.pure (ps_move rfl rfl) ?_
 refine GoO.guardD rfl rfl rfl rfl (fun h30 => ?_) (fun h30 => ?_)
 replace H := ite_t h30 H
 refine GoO.pure (ps_move rfl rfl) ?_
 refine GoO.guardT rfl rfl rfl ?_
 refine GoO.pure (ps_fieldAddr rfl rfl) ?_
 refine GoO.guardT rfl rfl rfl ?_
 refine GoO.pure (ps_load rfl At.p0 At.p0 Nat.zero_lt_one rfl rfl) ?_
 refine GoO.guardT rfl rfl rfl ?_
 have c31 := ck_l H; replace H := ck_r H
 refine GoO.pure (ps_shr rfl rfl rfl c31) ?_
 refine GoO.guardT rfl rfl rfl ?_
 refine GoO.pure (ps_and rfl rfl rfl) ?_
 refine GoO.guardT rfl rfl rfl ?_
 refine GoO.pure (ps_eql rfl rfl rfl) ?_
 refine GoO.pure (ps_pickT rfl rfl rfl) ?_
 refine GoO.nil ?_
 refine GoK.code ?_
 refine GoC.condD rfl (fun h32 => ?_) (fun h32 => ?_)
 replace H := ite_t h32 H
 refine GoC.seq ?_
 refine GoC.region ?_
 refine GoO.pure (ps_move rfl rfl) ?_
 refine GoO.pure (ps_convK rfl rfl) ?_
 have hb := bind_l H; clear H
 obtain ⟨r33, e34, H⟩ := hb
 refine GoO.effC (ef_call rfl (Take.nil _) (Take.nil _) (weirref_Ones_spec (IntKind.i64.wrap r8) e34) (LendL.cons (Lend.refl _ _) (LendL.nil)) rfl (weirref_Ones_I (r33))) (fun rr HH hp => ?_)
 obtain ⟨rfl, rfl⟩ := hp
 refine GoO.pure (ps_move rfl rfl) ?_
 refine GoO.pure (ps_convK rfl rfl) ?_
 have hb := bind_l H; clear H
 obtain ⟨r35, e36, H⟩ := hb
 refine GoO.effC (ef_call rfl (Take.nil _) (Take.nil _) (weirref_Ones_spec (IntKind.i64.wrap r9) e36) (LendL.cons (Lend.refl _ _) (LendL.nil)) rfl (weirref_Ones_I (r35))) (fun rr HH hp => ?_)
 obtain ⟨rfl, rfl⟩ := hp
 have c37 := ck_l H; replace H := ck_r H
 refine GoO.pure (ps_add rfl rfl rfl c37) ?_
 refine GoO.pure (ps_move rfl rfl) ?_
 refine GoO.pure (ps_len rfl (by constructor) rfl) ?_
 refine GoO.lenLe (n := r4.length) (x := .tmp 90) rfl (by constructor) own_lenLe (fun ml38 => ?_)
 refine GoO.pure (ps_eql rfl rfl rfl) ?_
 refine GoO.pure (ps_assign rfl rfl) ?_
 refine GoO.nil ?_
 refine GoK.code ?_
 obtain rfl := Option.some.inj H
 obtain rfl := Option.some.inj hF18
 obtain rfl := Option.some.inj HK17
 exact GoC.retL (ds := [.v (.bool (decide ((r33 + r35) = ((r4.length : Nat) : Int))))]) Try.results11 (ResL.cons (ResD.tmp rfl) (ResL.nil)) (Take.nil _) ⟨rfl, rfl⟩
 replace H := ite_f h32 H
 refine GoC.skip ?_
 refine GoK.blk ?_
 refine GoK.code ?_
 refine GoC.region ?_
 refine GoO.pure (ps_add rfl rfl rfl hIk20) ?_
 refine GoO.pure (ps_move rfl rfl) ?_
 refine GoO.nil ?_
 obtain rfl := Option.some.inj H
 exact GoK.againJ m21' (by omega) ⟨_, ⟨by omega, hF18⟩, rfl, rfl⟩ (EnvD.eq rfl (EnvD.eq rfl (EnvD.eq rfl (EnvD.eq rfl (EnvD.eq rfl (EnvD.eq rfl (EnvD.eq rfl (EnvD.eq rfl (EnvD.nil))))))))) (TkD.cons _ _ _ _ _ Rem.p1 (HLe.refl _) (TkD.nil _))
 replace H := ite_f h30 H
 refine GoO.guardF rfl rfl rfl rfl ?_
 refine GoO.guardF rfl rfl rfl rfl ?_
 refine GoO.guardF rfl rfl rfl rfl ?_
 refine GoO.guardF rfl rfl rfl rfl ?_
 refine GoO.guardF rfl rfl rfl rfl ?_
 refine GoO.pure (ps_pickF rfl rfl rfl) ?_
 refine GoO.nil ?_
 refine GoK.code ?_
 refine GoC.condF rfl ?_
 refine GoC.skip ?_
 refine GoK.blk ?_
 refine GoK.code ?_
 refine GoC.region ?_
 refine GoO.pure (ps_add rfl rfl rfl hIk20) ?_
 refine GoO.pure (ps_move rfl rfl) ?_
 refine GoO.nil ?_
 obtain rfl := Option.some.inj H
 exact GoK.againJ m21' (by omega) ⟨_, ⟨by omega, hF18⟩, rfl, rfl⟩ (EnvD.eq rfl (EnvD.eq rfl (EnvD.eq rfl (EnvD.eq rfl (EnvD.eq rfl (EnvD.eq rfl (EnvD.eq rfl (EnvD.eq rfl (EnvD.nil))))))))) (TkD.cons _ _ _ _ _ Rem.p1 (HLe.refl _) (TkD.nil _))
 obtain rfl : m21 = 0 := by omega
 refine GoC.exit rfl ?_
 cases hF18
 exact GoK.meet ⟨rfl, rfl, rfl⟩ (EnvD.eq rfl (EnvD.eq rfl (EnvD.eq rfl (EnvD.eq rfl (EnvD.eq rfl (EnvD.nil)))))) (TkD.cons _ _ _ _ _ Rem.p0 (HLe.refl _) (TkD.nil _))
 rintro v h ⟨rfl, rfl, rfl⟩
 have H := HK17; clear HK17
 refine GoK.code ?_
 refine GoC.seq ?_
 refine GoC.region ?_
 refine GoO.pure (ps_move rfl rfl) ?_
 refine GoO.pure (ps_convK rfl rfl) ?_
 have hb := bind_l H; clear H
 obtain ⟨r40, e41, H⟩ := hb
 refine GoO.effC (ef_call rfl (Take.nil _) (Take.nil _) (weirref_Ones_spec (IntKind.i64.wrap r8) e41) (LendL.cons (Lend.refl _ _) (LendL.nil)) rfl (weirref_Ones_I (r40))) (fun rr HH hp => ?_)
 obtain ⟨rfl, rfl⟩ := hp
 refine GoO.pure (ps_move rfl rfl) ?_
 refine GoO.pure (ps_convK rfl rfl) ?_
 have hb := bind_l H; clear H
 obtain ⟨r42, e43, H⟩ := hb
 refine GoO.effC (ef_call rfl (Take.nil _) (Take.nil _) (weirref_Ones_spec (IntKind.i64.wrap r9) e43) (LendL.cons (Lend.refl _ _) (LendL.nil)) rfl (weirref_Ones_I (r42))) (fun rr HH hp => ?_)
 obtain ⟨rfl, rfl⟩ := hp
 have c44 := ck_l H; replace H := ck_r H
 refine GoO.pure (ps_add rfl rfl rfl c44) ?_
 refine GoO.pure (ps_move rfl rfl) ?_
 refine GoO.pure (ps_len rfl (by constructor) rfl) ?_
 refine GoO.lenLe (n := r4.length) (x := .tmp 101) rfl (by constructor) own_lenLe (fun ml45 => ?_)
 refine GoO.pure (ps_eql rfl rfl rfl) ?_
 refine GoO.pure (ps_move rfl rfl) ?_
 refine GoO.guardD rfl rfl rfl rfl (fun h46 => ?_) (fun h46 => ?_)
 replace H := ite_t h46 H
 refine GoO.pure (ps_move rfl rfl) ?_
 refine GoO.guardT rfl rfl rfl ?_
 refine GoO.pure (ps_len rfl (by constructor) rfl) ?_
 refine GoO.guardT rfl rfl rfl ?_
 refine GoO.pure (ps_move rfl rfl) ?_
 refine GoO.guardT rfl rfl rfl ?_
 refine GoO.pure (ps_convK rfl rfl) ?_
 refine GoO.guardT rfl rfl rfl ?_
 have hb := bind_l H; clear H
 obtain ⟨r47, e48, H⟩ := hb
 refine GoO.effC (ef_call rfl (Take.nil _) (Take.nil _) (weirref_Ones_spec (IntKind.i64.wrap x) e48) (LendL.cons (Lend.refl _ _) (LendL.nil)) rfl (weirref_Ones_I (r47))) (fun rr HH hp => ?_)
 obtain ⟨rfl, rfl⟩ := hp
 refine GoO.guardT rfl rfl rfl ?_
 refine GoO.pure (ps_move rfl rfl) ?_
 refine GoO.guardT rfl rfl rfl ?_
 refine GoO.pure (ps_convK rfl rfl) ?_
 refine GoO.guardT rfl rfl rfl ?_
 have hb := bind_l H; clear H
 obtain ⟨r49, e50, H⟩ := hb
 refine GoO.effC (ef_call rfl (Take.nil _) (Take.nil _) (weirref_Ones_spec (IntKind.i64.wrap y) e50) (LendL.cons (Lend.refl _ _) (LendL.nil)) rfl (weirref_Ones_I (r49))) (fun rr HH hp => ?_)
 obtain ⟨rfl, rfl⟩ := hp
 refine GoO.guardT rfl rfl rfl ?_
 have c51 := ck_l H; replace H := ck_r H
 refine GoO.pure (ps_add rfl rfl rfl c51) ?_
 refine GoO.guardT rfl rfl rfl ?_
 refine GoO.pure (ps_leq rfl rfl rfl) ?_
 refine GoO.pure (ps_pickT rfl rfl rfl) ?_
 refine GoO.pure (ps_assign rfl rfl) ?_
 refine GoO.nil ?_
 refine GoK.code ?_
 obtain rfl := Option.some.inj H
 exact GoC.retL (ds := [.v (.bool (decide (((r4.length : Nat) : Int) ≤ (r47 + r49))))]) Try.results11 (ResL.cons (ResD.tmp rfl) (ResL.nil)) (Take.nil _) ⟨rfl, rfl⟩
 replace H := ite_f h46 H
 refine GoO.guardF rfl rfl rfl rfl ?_
 refine GoO.guardF rfl rfl rfl rfl ?_
 refine GoO.guardF rfl rfl rfl rfl ?_
 refine GoO.guardF rfl rfl rfl rfl ?_
 refine GoO.guardF rfl rfl rfl rfl ?_
 refine GoO.guardF rfl rfl rfl rfl ?_
 refine GoO.guardF rfl rfl rfl rfl ?_
 refine GoO.guardF rfl rfl rfl rfl ?_
 refine GoO.guardF rfl rfl rfl rfl ?_
 refine GoO.pure (ps_pickF rfl rfl rfl) ?_
 refine GoO.pure (ps_assign rfl rfl) ?_
 refine GoO.nil ?_
 refine GoK.code ?_
 obtain rfl := Option.some.inj H
 exact GoC.retL (ds := [.v (.bool false)]) Try.results11 (ResL.cons (ResD.tmp rfl) (ResL.nil)) (Take.nil _) ⟨rfl, rfl⟩
 replace H := ite_t h12 H
 refine GoO.guardF rfl rfl rfl rfl ?_
 refine GoO.pure (ps_pickT rfl rfl rfl) ?_
 refine GoO.nil ?_
 refine GoK.code ?_
 refine GoC.condT rfl ?_
 refine GoC.seq ?_
 refine GoC.region ?_
 refine GoO.pure (ps_move rfl rfl) ?_
 refine GoO.pure (ps_move rfl rfl) ?_
 refine GoO.pure (ps_eql rfl rfl rfl) ?_
 refine GoO.pure (ps_move rfl rfl) ?_
 refine GoO.guardD rfl rfl rfl rfl (fun h52 => ?_) (fun h52 => ?_)
 replace H := ite_t h52 H
 refine GoO.pure (ps_move rfl rfl) ?_
 refine GoO.guardT rfl rfl rfl ?_
 refine GoO.pure (ps_len rfl (by constructor) rfl) ?_
 refine GoO.lenLe (n := r4.length) (x := .tmp 45) rfl (by constructor) own_lenLe (fun ml53 => ?_)
 refine GoO.guardT rfl rfl rfl ?_
 refine GoO.pure (ps_eql rfl rfl rfl) ?_
 refine GoO.pure (ps_pickT rfl rfl rfl) ?_
 refine GoO.pure (ps_assign rfl rfl) ?_
 refine GoO.nil ?_
 refine GoK.code ?_
 obtain rfl := Option.some.inj H
 exact GoC.retL (ds := [.v (.bool (decide (((r4.length : Nat) : Int) = 0)))]) Try.results11 (ResL.cons (ResD.tmp rfl) (ResL.nil)) (Take.nil _) ⟨rfl, rfl⟩
 replace H := ite_f h52 H
 refine GoO.guardF rfl rfl rfl rfl ?_
 refine GoO.guardF rfl rfl rfl rfl ?_
 refine GoO.pure (ps_pickF rfl rfl rfl) ?_
 refine GoO.pure (ps_assign rfl rfl) ?_
 refine GoO.nil ?_
 refine GoK.code ?_
 obtain rfl := Option.some.inj H
 exact GoC.retL (ds := [.v (.bool false)]) Try.results11 (ResL.cons (ResD.tmp rfl) (ResL.nil)) (Take.nil _) ⟨rfl, rfl⟩

end Go.Proofs.Ythgjamhcnaamdaa
