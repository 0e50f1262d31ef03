/- The functions weirtop.TopTable, told as plain functions, and that the code does as they say. -/
import Derived.Test.YtmdpjhclgofbfaaTys
import Derived.Test.YtmdpjhclgofbfaaDat
import Derived.Test.YtmdpjhclgofbfaaGassign
import Derived.Test.YtmdpjhclgofbfaaGdouble
import Derived.Test.YtmdpjhclgofbfaaGkeep
namespace Go.Proofs.Ytmdpjhclgofbfaa
open Go Go.Proofs.Ytmdpjhclgofbfaa.Sx
set_option linter.unusedVariables false
set_option linter.unusedSimpArgs false
def weirtop_TopTable_B2 (t : (List (List Int))) (gain : (List (List Int))) (k27 : Nat) : Nat → Int → Option (Int) := fun k35 x30 =>
 ck (k27 < gain.length) <|
 ck (k35 < (gain.getD k27 []).length) <|
 ck (InI (((t.getD k27 []).getD k35 (0 : Int)) * ((gain.getD k27 []).getD k35 (0 : Int)))) <|
 ck (InI (x30 + (((t.getD k27 []).getD k35 (0 : Int)) * ((gain.getD k27 []).getD k35 (0 : Int))))) <|
 some (x30 + (((t.getD k27 []).getD k35 (0 : Int)) * ((gain.getD k27 []).getD k35 (0 : Int))))
def weirtop_TopTable_B1 (t : (List (List Int))) (gain : (List (List Int))) : Nat → Int → Option (Int) := fun k27 x22 =>
 (forN (weirtop_TopTable_B2 t gain k27) ((t.getD k27 []).length) 0 x22).bind fun x34 =>
 some x34
def weirtop_TopTable_B4 (gain : (List (List Int))) (r12 : (List Piece)) (k49 : Nat) : Nat → Int → Option (Ct (Int) (Ct (Int) (Bool))) := fun k58 x53 =>
 if ((gain.length : Nat) : Int) ≤ ((k58 : Nat) : Int) then
  some (.ret (.ret false))
 else
  if (((r12.getD k49 El.d).arcs).getD k58 (0 : Int)) < 0 then
   some (.ret (.ret false))
  else
   if ((gain.length : Nat) : Int) ≤ (((r12.getD k49 El.d).arcs).getD k58 (0 : Int)) then
    some (.ret (.ret false))
   else
    ck (k58 < gain.length) <|
    ck (0 ≤ (((r12.getD k49 El.d).arcs).getD k58 (0 : Int)) ∧ (((r12.getD k49 El.d).arcs).getD k58 (0 : Int)) < (((gain.getD k58 []).length : Nat) : Int)) <|
    ck (InI (((r12.getD k49 El.d).amount) * ((gain.getD k58 []).getD ((((r12.getD k49 El.d).arcs).getD k58 (0 : Int)).toNat) (0 : Int)))) <|
    ck (InI (x53 + (((r12.getD k49 El.d).amount) * ((gain.getD k58 []).getD ((((r12.getD k49 El.d).arcs).getD k58 (0 : Int)).toNat) (0 : Int))))) <|
    some (.go (x53 + (((r12.getD k49 El.d).amount) * ((gain.getD k58 []).getD ((((r12.getD k49 El.d).arcs).getD k58 (0 : Int)).toNat) (0 : Int)))))
def weirtop_TopTable_B3 (gain : (List (List Int))) (r12 : (List Piece)) : Nat → Int → Option (Ct (Int) (Bool)) := fun k49 x44 =>
 (forC (weirtop_TopTable_B4 gain r12 k49) (((r12.getD k49 El.d).arcs).length) 0 x44).bind fun q => match q with
 | .go x57 =>
  some (.go x57)
 | .ret x => some x
def weirtop_TopTable_F (t : (List (List Int))) (gain : (List (List Int))) : Option (Bool) :=
 (weirtop_works_F).bind fun r1 =>
 if (!r1) = true then
  some false
 else
  (double_Check_F t).bind fun (r4, r5) =>
  (assign_Best_F gain).bind fun (r7, r9, r10) =>
  (double_Split_F t).bind fun (r12, r14) =>
  if r5 ≠ 0 then
   if r5 = 0 then
    some true
   else
    some (decide (r4 = 0))
  else
   if r10 ≠ 0 then
    if r5 = 0 then
     some true
    else
     some (decide (r4 = 0))
   else
    if ((t.length : Nat) : Int) ≠ ((gain.length : Nat) : Int) then
     if r5 = 0 then
      some true
     else
      some (decide (r4 = 0))
    else
     (forN (weirtop_TopTable_B1 t gain) t.length 0 0).bind fun x26 =>
     (forC (weirtop_TopTable_B3 gain r12) r12.length 0 0).bind fun q => match q with
     | .go x48 =>
      if r14 = 0 then
       if x26 = x48 then
        ck (InI (r4 * r9)) <|
        some (decide (x26 ≤ (r4 * r9)))
       else
        some false
      else
       some false
     | .ret x => some x
def weirtop_TopTable_P (out : Bool) (d : D) (H : List HL) : Prop := d = .v (.bool out) ∧ H = []
theorem weirtop_TopTable_I (out : Bool) : IndepP (weirtop_TopTable_P out) := IndepP.of (by rintro _ _ ⟨rfl, rfl⟩; exact ⟨inferInstance, inferInstance⟩)
set_option maxRecDepth 100000 in
set_option maxHeartbeats 4000000 in
theorem weirtop_TopTable_spec (t : (List (List Int))) (gain : (List (List Int))) {out : Bool} (H : weirtop_TopTable_F t gain = some out) : Does Try.prog 5 [slD t, slD gain] [] (weirtop_TopTable_P out) := by
 unfold weirtop_TopTable_F at H
 refine Does.intro Try.func5 rfl Try.ntmps5 rfl fun w0 I0 => ?_
 refine GoC.seq ?_
 refine GoC.region ?_
 refine GoO.pure (ps_assign rfl rfl) ?_
 refine GoO.nil ?_
 refine GoK.code ?_
 refine GoC.seq ?_
 refine GoC.seq ?_
 refine GoC.region ?_
 have hb := bind_l H; clear H
 obtain ⟨r1, e2, H⟩ := hb
 refine GoO.effC (ef_call rfl (Take.nil _) (Take.nil _) (weirtop_works_spec e2) (LendL.nil) rfl (weirtop_works_I (r1))) (fun rr HH hp => ?_)
 obtain ⟨rfl, rfl⟩ := hp
 refine GoO.pure (ps_not rfl rfl) ?_
 refine GoO.nil ?_
 refine GoK.code ?_
 refine GoC.cond rfl (fun h3 => ?_) (fun h3 => ?_)
 replace H := itb_t h3 H
 refine GoC.seq ?_
 refine GoC.region ?_
 refine GoO.pure (ps_assign rfl rfl) ?_
 refine GoO.nil ?_
 refine GoK.code ?_
 obtain rfl := Option.some.inj H
 exact GoC.retL (ds := [.v (.bool false)]) Try.results5 (ResL.cons (ResD.tmp rfl) (ResL.nil)) (Take.nil _) ⟨rfl, rfl⟩
 replace H := itb_f h3 H
 refine GoC.skip ?_
 refine GoK.code ?_
 refine GoC.seq ?_
 refine GoC.region ?_
 refine GoO.pure (ps_move rfl rfl) ?_
 have hb := bind_l H; clear H
 obtain ⟨⟨r4, r5⟩, e6, H⟩ := hb
 refine GoO.effC (ef_call rfl (Take.nil _) (Take.nil _) (double_Check_spec t e6) (LendL.cons (Lend.refl _ _) (LendL.nil)) rfl (double_Check_I (r4, r5))) (fun rr HH hp => ?_)
 obtain ⟨rfl, rfl⟩ := hp
 refine GoO.pure (ps_move rfl rfl) ?_
 refine GoO.pure (ps_extract rfl rfl rfl) ?_
 refine GoO.pure (ps_extract rfl rfl rfl) ?_
 refine GoO.pure (ps_assign rfl rfl) ?_
 refine GoO.pure (ps_assign rfl rfl) ?_
 refine GoO.nil ?_
 refine GoK.code ?_
 refine GoC.seq ?_
 refine GoC.region ?_
 refine GoO.pure (ps_move rfl rfl) ?_
 have hb := bind_l H; clear H
 obtain ⟨⟨r7, r9, r10⟩, e11, H⟩ := hb
 refine GoO.effC (ef_call rfl (Take.nil _) (Take.nil _) (assign_Best_spec gain e11) (LendL.cons (Lend.refl _ _) (LendL.nil)) rfl (assign_Best_I (r7, r9, r10))) (fun rr HH hp => ?_)
 obtain ⟨β8, rfl, rfl⟩ := hp
 refine GoO.pure (ps_move rfl rfl) ?_
 refine GoO.pure (ps_extract rfl rfl rfl) ?_
 refine GoO.pure (ps_extract rfl rfl rfl) ?_
 refine GoO.pure (ps_extract rfl rfl rfl) ?_
 refine GoO.pure (ps_assign rfl rfl) ?_
 refine GoO.pure (ps_assign rfl rfl) ?_
 refine GoO.pure (ps_assign rfl rfl) ?_
 refine GoO.nil ?_
 refine GoK.code ?_
 refine GoC.seq ?_
 refine GoC.region ?_
 refine GoO.pure (ps_move rfl rfl) ?_
 have hb := bind_l H; clear H
 obtain ⟨⟨r12, r14⟩, e15, H⟩ := hb
 refine GoO.callF rfl (Take.nil _) (Take.nil _) (double_Split_spec t e15) (LendL.cons (Lend.refl _ _) (LendL.nil)) rfl no_fps (fun rr HH hp => ?_)
 obtain ⟨β13, rfl, rfl⟩ := hp
 refine GoO.pure (ps_move rfl rfl) ?_
 refine GoO.pure (ps_extract rfl rfl rfl) ?_
 refine GoO.pure (ps_extract rfl rfl rfl) ?_
 refine GoO.pure (ps_assign rfl rfl) ?_
 refine GoO.pure (ps_assign rfl rfl) ?_
 refine GoO.nil ?_
 refine GoK.code ?_
 refine GoC.seq ?_
 refine GoC.seq ?_
 refine GoC.region ?_
 refine GoO.pure (ps_move rfl rfl) ?_
 refine GoO.pure (ps_neq rfl rfl rfl) ?_
 refine GoO.pure (ps_move rfl rfl) ?_
 refine GoO.guardE rfl rfl rfl rfl (fun h16 => ?_) (fun h16 => ?_)
 replace H := ite_f h16 H
 refine GoO.pure (ps_move rfl rfl) ?_
 refine GoO.guardT rfl rfl rfl ?_
 refine GoO.pure (ps_neq rfl rfl rfl) ?_
 refine GoO.pure (ps_pickF rfl rfl rfl) ?_
 refine GoO.pure (ps_move rfl rfl) ?_
 refine GoO.guardE rfl rfl rfl rfl (fun h17 => ?_) (fun h17 => ?_)
 replace H := ite_f h17 H
 refine GoO.pure (ps_move rfl rfl) ?_
 refine GoO.guardT rfl rfl rfl ?_
 refine GoO.pure (ps_len rfl (by constructor) rfl) ?_
 refine GoO.lenLe (n := t.length) (x := .tmp 47) rfl (by constructor) sl_lenLe (fun ml18 => ?_)
 refine GoO.guardT rfl rfl rfl ?_
 refine GoO.pure (ps_move rfl rfl) ?_
 refine GoO.guardT rfl rfl rfl ?_
 refine GoO.pure (ps_len rfl (by constructor) rfl) ?_
 refine GoO.lenLe (n := gain.length) (x := .tmp 49) rfl (by constructor) sl_lenLe (fun ml19 => ?_)
 refine GoO.guardT rfl rfl rfl ?_
 refine GoO.pure (ps_neq rfl rfl rfl) ?_
 refine GoO.pure (ps_pickF rfl rfl rfl) ?_
 refine GoO.nil ?_
 refine GoK.code ?_
 refine GoC.condD rfl (fun h20 => ?_) (fun h20 => ?_)
 replace H := ite_t h20 H
 refine GoC.seq ?_
 refine GoC.region ?_
 refine GoO.pure (ps_move rfl rfl) ?_
 refine GoO.pure (ps_eql rfl rfl rfl) ?_
 refine GoO.pure (ps_move rfl rfl) ?_
 refine GoO.guardE rfl rfl rfl rfl (fun h21 => ?_) (fun h21 => ?_)
 replace H := ite_f h21 H
 refine GoO.pure (ps_move rfl rfl) ?_
 refine GoO.guardT rfl rfl rfl ?_
 refine GoO.pure (ps_eql rfl rfl rfl) ?_
 refine GoO.pure (ps_pickF rfl rfl rfl) ?_
 refine GoO.pure (ps_assign rfl rfl) ?_
 refine GoO.nil ?_
 refine GoK.code ?_
 obtain rfl := Option.some.inj H
 exact GoC.retL (ds := [.v (.bool (decide (r4 = 0)))]) Try.results5 (ResL.cons (ResD.tmp rfl) (ResL.nil)) (Take.nil _) ⟨rfl, rfl⟩
 replace H := ite_t h21 H
 refine GoO.guardF rfl rfl rfl rfl ?_
 refine GoO.pure (ps_pickT rfl rfl rfl) ?_
 refine GoO.pure (ps_assign rfl rfl) ?_
 refine GoO.nil ?_
 refine GoK.code ?_
 obtain rfl := Option.some.inj H
 exact GoC.retL (ds := [.v (.bool true)]) Try.results5 (ResL.cons (ResD.tmp rfl) (ResL.nil)) (Take.nil _) ⟨rfl, rfl⟩
 replace H := ite_f h20 H
 refine GoC.skip ?_
 refine GoK.code ?_
 refine GoC.seq ?_
 refine GoC.region ?_
 refine GoO.pure (ps_assign rfl rfl) ?_
 refine GoO.pure (ps_assign rfl rfl) ?_
 refine GoO.nil ?_
 refine GoK.code ?_
 refine GoC.seq ?_
 refine GoC.seq ?_
 refine GoC.region ?_
 refine GoO.pure (ps_move rfl rfl) ?_
 refine GoO.pure (ps_len rfl (by constructor) rfl) ?_
 refine GoO.pure (ps_move rfl rfl) ?_
 refine GoO.nil ?_
 refine GoK.code ?_
 have hb := bind_l H; clear H
 obtain ⟨x26, hl42, HK23⟩ := hb
 refine GoC.blockJ [(1, slD gain), (5, .v (.int .i64 r4)), (8, .v (.int .i64 r9)), (10, .own β13 2 0 r12.length), (11, .v (.int .i64 r14)), (13, .v (.int .i64 0))] [.one β13 32 2 (row r12), .one β8 3 1 (row r7)] (fun v h => v = [(12, .v (.int .i64 x26))] ∧ h = []) ?_ ?_
 refine GoC.loopJ [(1, _), (5, _), (8, _), (10, _), (11, _), (13, _), (59, _), (60, _)] [.one β13 32 2 (row r12), .one β8 3 1 (row r7)] (fun mQ v h => ∃ (k27 : Nat) (x22 : Int), (k27 + mQ = t.length ∧ forN (weirtop_TopTable_B1 t gain) mQ k27 x22 = some x26) ∧ v = [(61, .v (.int .i64 ((k27 : Nat) : Int))), (12, .v (.int .i64 x22))] ∧ h = []) t.length ⟨_, _, ⟨by omega, hl42⟩, rfl, rfl⟩ (EnvD.eq rfl (EnvD.eq rfl (EnvD.eq rfl (EnvD.eq rfl (EnvD.eq rfl (EnvD.eq rfl (EnvD.eq rfl (EnvD.eq rfl (EnvD.eq rfl (EnvD.eq rfl (EnvD.nil))))))))))) (TkD.cons _ _ _ _ _ Rem.p0 (HLe.refl _) (TkD.cons _ _ _ _ _ Rem.p0 (HLe.refl _) (TkD.nil _))) ?_
 rintro m28 v h ⟨k27, x22, ⟨hkk27, hF24⟩, rfl, rfl⟩
 refine GoC.seq ?_
 refine GoC.region ?_
 refine GoO.pure (ps_lss rfl rfl rfl) ?_
 refine GoO.nil ?_
 refine GoK.code ?_
 refine GoC.seq ?_
 refine GoC.condD rfl (fun (hk27 : (k27 : Int) < ((t.length : Nat) : Int)) => ?_) (fun (hk27 : ¬ (k27 : Int) < ((t.length : Nat) : Int)) => ?_)
 obtain ⟨m28', rfl⟩ : ∃ x, m28 = x + 1 := ⟨m28 - 1, by omega⟩
 have hb := bind_l hF24; clear hF24
 obtain ⟨qrm28, H, hF24⟩ := hb
 have hnk27 : k27 < t.length := by omega
 have hIk27 : InI ((k27 : Int) + 1) := inI_len hk27 ml18
 refine GoC.skip ?_
 refine GoK.code ?_
 refine GoC.seq ?_
 refine GoC.block ?_
 refine GoC.seq ?_
 refine GoC.region ?_
 refine GoO.pure (ps_move rfl rfl) ?_
 refine GoO.pure (ps_indexAddrRN rfl rfl hnk27 rfl) ?_
 refine GoO.pure (ps_loadR rfl hnk27 rfl rfl) ?_
 refine GoO.pure (ps_assign rfl rfl) ?_
 refine GoO.pure (ps_assign rfl rfl) ?_
 refine GoO.nil ?_
 refine GoK.code ?_
 refine GoC.seq ?_
 refine GoC.region ?_
 refine GoO.pure (ps_move rfl rfl) ?_
 refine GoO.pure (ps_len rfl (by constructor) rfl) ?_
 refine GoO.lenLe (n := (t.getD k27 []).length) (x := .tmp 66) rfl (by constructor) sl_lenLe (fun ml29 => ?_)
 refine GoO.pure (ps_move rfl rfl) ?_
 refine GoO.nil ?_
 refine GoK.code ?_
 have hb := bind_l H; clear H
 obtain ⟨x34, hl41, HK31⟩ := hb
 refine GoC.blockJ [(1, slD gain), (5, .v (.int .i64 r4)), (8, .v (.int .i64 r9)), (10, .own β13 2 0 r12.length), (11, .v (.int .i64 r14)), (13, .v (.int .i64 0)), (59, slD t), (60, .v (.int .i64 ((t.length : Nat) : Int))), (61, .v (.int .i64 ((k27 : Nat) : Int)))] [.one β13 32 2 (row r12), .one β8 3 1 (row r7)] (fun v h => v = [(12, .v (.int .i64 x34))] ∧ h = []) ?_ ?_
 refine GoC.loopJ [(1, _), (5, _), (8, _), (10, _), (11, _), (13, _), (14, _), (59, _), (60, _), (61, _), (66, _), (67, _)] [.one β13 32 2 (row r12), .one β8 3 1 (row r7)] (fun mQ v h => ∃ (k35 : Nat) (x30 : Int), (k35 + mQ = (t.getD k27 []).length ∧ forN (weirtop_TopTable_B2 t gain k27) mQ k35 x30 = some x34) ∧ v = [(68, .v (.int .i64 ((k35 : Nat) : Int))), (12, .v (.int .i64 x30))] ∧ h = []) ((t.getD k27 []).length) ⟨_, _, ⟨by omega, hl41⟩, rfl, rfl⟩ (EnvD.eq rfl (EnvD.eq rfl (EnvD.eq rfl (EnvD.eq rfl (EnvD.eq rfl (EnvD.eq rfl (EnvD.eq rfl (EnvD.eq rfl (EnvD.eq rfl (EnvD.eq rfl (EnvD.eq rfl (EnvD.eq rfl (EnvD.eq rfl (EnvD.eq rfl (EnvD.nil))))))))))))))) (TkD.cons _ _ _ _ _ Rem.p0 (HLe.refl _) (TkD.cons _ _ _ _ _ Rem.p0 (HLe.refl _) (TkD.nil _))) ?_
 rintro m36 v h ⟨k35, x30, ⟨hkk35, hF32⟩, rfl, rfl⟩
 refine GoC.seq ?_
 refine GoC.region ?_
 refine GoO.pure (ps_lss rfl rfl rfl) ?_
 refine GoO.nil ?_
 refine GoK.code ?_
 refine GoC.seq ?_
 refine GoC.condD rfl (fun (hk35 : (k35 : Int) < (((t.getD k27 []).length : Nat) : Int)) => ?_) (fun (hk35 : ¬ (k35 : Int) < (((t.getD k27 []).length : Nat) : Int)) => ?_)
 obtain ⟨m36', rfl⟩ : ∃ x, m36 = x + 1 := ⟨m36 - 1, by omega⟩
 have hb := bind_l hF32; clear hF32
 obtain ⟨qrm36, H, hF32⟩ := hb
 have hnk35 : k35 < (t.getD k27 []).length := by omega
 have hIk35 : InI ((k35 : Int) + 1) := inI_len hk35 ml29
 refine GoC.skip ?_
 refine GoK.code ?_
 refine GoC.seq ?_
 refine GoC.block ?_
 refine GoC.seq ?_
 refine GoC.region ?_
 refine GoO.pure (ps_move rfl rfl) ?_
 refine GoO.pure (ps_indexAddrRN rfl rfl hnk35 rfl) ?_
 refine GoO.pure (ps_loadR rfl hnk35 rfl rfl) ?_
 refine GoO.pure (ps_assign rfl rfl) ?_
 refine GoO.pure (ps_assign rfl rfl) ?_
 refine GoO.nil ?_
 refine GoK.code ?_
 refine GoC.region ?_
 refine GoO.pure (ps_move rfl rfl) ?_
 refine GoO.pure (ps_move rfl rfl) ?_
 refine GoO.pure (ps_move rfl rfl) ?_
 refine GoO.pure (ps_move rfl rfl) ?_
 have c37 := ck_l H; replace H := ck_r H
 refine GoO.pure (ps_indexAddrRN rfl rfl c37 rfl) ?_
 refine GoO.pure (ps_loadR rfl c37 rfl rfl) ?_
 refine GoO.pure (ps_move rfl rfl) ?_
 have c38 := ck_l H; replace H := ck_r H
 refine GoO.pure (ps_indexAddrRN rfl rfl c38 rfl) ?_
 refine GoO.pure (ps_loadR rfl c38 rfl rfl) ?_
 have c39 := ck_l H; replace H := ck_r H
 refine GoO.pure (ps_mul rfl rfl rfl c39) ?_
 have c40 := ck_l H; replace H := ck_r H
 refine GoO.pure (ps_add rfl rfl rfl c40) ?_
 refine GoO.pure (ps_assign rfl rfl) ?_
 refine GoO.nil ?_
 refine GoK.blk ?_
 refine GoK.code ?_
 refine GoC.region ?_
 refine GoO.pure (ps_add rfl rfl rfl hIk35) ?_
 refine GoO.pure (ps_move rfl rfl) ?_
 refine GoO.nil ?_
 obtain rfl := Option.some.inj H
 exact GoK.againJ m36' (by omega) ⟨_, _, ⟨by omega, hF32⟩, rfl, rfl⟩ (EnvD.eq rfl (EnvD.eq rfl (EnvD.eq rfl (EnvD.eq rfl (EnvD.eq rfl (EnvD.eq rfl (EnvD.eq rfl (EnvD.eq rfl (EnvD.eq rfl (EnvD.eq rfl (EnvD.eq rfl (EnvD.eq rfl (EnvD.eq rfl (EnvD.eq rfl (EnvD.nil))))))))))))))) (TkD.cons _ _ _ _ _ Rem.p0 (HLe.refl _) (TkD.cons _ _ _ _ _ Rem.p0 (HLe.refl _) (TkD.nil _)))
 obtain rfl : m36 = 0 := by omega
 refine GoC.exit rfl ?_
 cases hF32
 exact GoK.meet ⟨rfl, rfl⟩ (EnvD.eq rfl (EnvD.eq rfl (EnvD.eq rfl (EnvD.eq rfl (EnvD.eq rfl (EnvD.eq rfl (EnvD.eq rfl (EnvD.eq rfl (EnvD.eq rfl (EnvD.eq rfl (EnvD.nil))))))))))) (TkD.cons _ _ _ _ _ Rem.p0 (HLe.refl _) (TkD.cons _ _ _ _ _ Rem.p0 (HLe.refl _) (TkD.nil _)))
 rintro v h ⟨rfl, rfl⟩
 have H := HK31; clear HK31
 refine GoK.blk ?_
 refine GoK.code ?_
 refine GoC.region ?_
 refine GoO.pure (ps_add rfl rfl rfl hIk27) ?_
 refine GoO.pure (ps_move rfl rfl) ?_
 refine GoO.nil ?_
 obtain rfl := Option.some.inj H
 exact GoK.againJ m28' (by omega) ⟨_, _, ⟨by omega, hF24⟩, rfl, rfl⟩ (EnvD.eq rfl (EnvD.eq rfl (EnvD.eq rfl (EnvD.eq rfl (EnvD.eq rfl (EnvD.eq rfl (EnvD.eq rfl (EnvD.eq rfl (EnvD.eq rfl (EnvD.eq rfl (EnvD.nil))))))))))) (TkD.cons _ _ _ _ _ Rem.p0 (HLe.refl _) (TkD.cons _ _ _ _ _ Rem.p0 (HLe.refl _) (TkD.nil _)))
 obtain rfl : m28 = 0 := by omega
 refine GoC.exit rfl ?_
 cases hF24
 exact GoK.meet ⟨rfl, rfl⟩ (EnvD.eq rfl (EnvD.eq rfl (EnvD.eq rfl (EnvD.eq rfl (EnvD.eq rfl (EnvD.eq rfl (EnvD.eq rfl (EnvD.nil)))))))) (TkD.cons _ _ _ _ _ Rem.p0 (HLe.refl _) (TkD.cons _ _ _ _ _ Rem.p0 (HLe.refl _) (TkD.nil _)))
 rintro v h ⟨rfl, rfl⟩
 have H := HK23; clear HK23
 refine GoK.code ?_
 refine GoC.seq ?_
 refine GoC.seq ?_
 refine GoC.region ?_
 refine GoO.pure (ps_move rfl rfl) ?_
 refine GoO.pure (ps_len rfl (by constructor) rfl) ?_
 refine GoO.lenLe (n := r12.length) (x := .tmp 86) rfl (by constructor) own_lenLe (fun ml43 => ?_)
 refine GoO.pure (ps_move rfl rfl) ?_
 refine GoO.nil ?_
 refine GoK.code ?_
 have hb := bind_l H; clear H
 obtain ⟨q47, hl68, HK45⟩ := hb
 refine GoC.blockJ [(5, .v (.int .i64 r4)), (8, .v (.int .i64 r9)), (11, .v (.int .i64 r14)), (12, .v (.int .i64 x26))] [.one β13 32 2 (row r12), .one β8 3 1 (row r7)] (fun v h => ∃ (x48 : Int), q47 = .go x48 ∧ v = [(13, .v (.int .i64 x48))] ∧ h = []) ?_ ?_
 refine GoC.loopJ [(1, _), (5, _), (8, _), (11, _), (12, _), (86, _), (87, _)] [.one β13 32 2 (row r12), .one β8 3 1 (row r7)] (fun mQ v h => ∃ (k49 : Nat) (x44 : Int), (k49 + mQ = r12.length ∧ forC (weirtop_TopTable_B3 gain r12) mQ k49 x44 = some q47) ∧ v = [(88, .v (.int .i64 ((k49 : Nat) : Int))), (13, .v (.int .i64 x44))] ∧ h = []) r12.length ⟨_, _, ⟨by omega, hl68⟩, rfl, rfl⟩ (EnvD.eq rfl (EnvD.eq rfl (EnvD.eq rfl (EnvD.eq rfl (EnvD.eq rfl (EnvD.eq rfl (EnvD.eq rfl (EnvD.eq rfl (EnvD.eq rfl (EnvD.nil)))))))))) (TkD.cons _ _ _ _ _ Rem.p0 (HLe.refl _) (TkD.cons _ _ _ _ _ Rem.p0 (HLe.refl _) (TkD.nil _))) ?_
 rintro m50 v h ⟨k49, x44, ⟨hkk49, hF46⟩, rfl, rfl⟩
 refine GoC.seq ?_
 refine GoC.region ?_
 refine GoO.pure (ps_lss rfl rfl rfl) ?_
 refine GoO.nil ?_
 refine GoK.code ?_
 refine GoC.seq ?_
 refine GoC.condD rfl (fun (hk49 : (k49 : Int) < ((r12.length : Nat) : Int)) => ?_) (fun (hk49 : ¬ (k49 : Int) < ((r12.length : Nat) : Int)) => ?_)
 obtain ⟨m50', rfl⟩ : ∃ x, m50 = x + 1 := ⟨m50 - 1, by omega⟩
 have hb := bind_l hF46; clear hF46
 obtain ⟨qrm50, H, hF46⟩ := hb
 have hnk49 : k49 < r12.length := by omega
 have hIk49 : InI ((k49 : Int) + 1) := inI_len hk49 ml43
 refine GoC.skip ?_
 refine GoK.code ?_
 refine GoC.seq ?_
 refine GoC.block ?_
 refine GoC.seq ?_
 refine GoC.region ?_
 refine GoO.pure (ps_indexAddr0N rfl rfl hnk49 rfl) ?_
 refine GoO.pure (ps_loadAg rfl At.p0 At.p0 hnk49 rfl rfl) ?_
 refine GoO.effB (ef_alloc rfl) (fun β51 => ?_)
 refine GoO.eff1 (ef_storeAg rfl rfl At.p0 upd_whole Nat.zero_lt_one rfl) ?_
 refine GoO.nil ?_
 refine GoK.code ?_
 refine GoC.seq ?_
 refine GoC.region ?_
 refine GoO.pure (ps_fieldAddr rfl rfl) ?_
 refine GoO.pure (ps_load rfl At.p0 At.p0 Nat.zero_lt_one rfl rfl) ?_
 refine GoO.pure (ps_len rfl (by constructor) rfl) ?_
 refine GoO.lenLe (n := ((r12.getD k49 El.d).arcs).length) (x := .tmp 93) rfl (by constructor) sl_lenLe (fun ml52 => ?_)
 refine GoO.pure (ps_move rfl rfl) ?_
 refine GoO.nil ?_
 refine GoK.code ?_
 have hb := bind_l H; clear H
 obtain ⟨q56, hl67, HK54⟩ := hb
 refine GoC.blockJ [(1, slD gain), (5, .v (.int .i64 r4)), (8, .v (.int .i64 r9)), (11, .v (.int .i64 r14)), (12, .v (.int .i64 x26)), (86, .own β13 2 0 r12.length), (87, .v (.int .i64 ((r12.length : Nat) : Int))), (88, .v (.int .i64 ((k49 : Nat) : Int)))] [.one β51 32 2 (st1 (nth [.v (.int .i64 ((r12.getD k49 El.d).amount)), slD ((r12.getD k49 El.d).arcs)])), .one β13 32 2 (row r12), .one β8 3 1 (row r7)] (fun v h => ∃ (x57 : Int), q56 = .go x57 ∧ v = [(13, .v (.int .i64 x57))] ∧ h = []) ?_ ?_
 refine GoC.loopJ [(1, _), (5, _), (8, _), (11, _), (12, _), (19, _), (86, _), (87, _), (88, _), (93, _), (94, _)] [.one β51 32 2 (st1 (nth [.v (.int .i64 ((r12.getD k49 El.d).amount)), slD ((r12.getD k49 El.d).arcs)])), .one β13 32 2 (row r12), .one β8 3 1 (row r7)] (fun mQ v h => ∃ (k58 : Nat) (x53 : Int), (k58 + mQ = ((r12.getD k49 El.d).arcs).length ∧ forC (weirtop_TopTable_B4 gain r12 k49) mQ k58 x53 = some q56) ∧ v = [(95, .v (.int .i64 ((k58 : Nat) : Int))), (13, .v (.int .i64 x53))] ∧ h = []) (((r12.getD k49 El.d).arcs).length) ⟨_, _, ⟨by omega, hl67⟩, rfl, rfl⟩ (EnvD.eq rfl (EnvD.eq rfl (EnvD.eq rfl (EnvD.eq rfl (EnvD.eq rfl (EnvD.eq rfl (EnvD.eq rfl (EnvD.eq rfl (EnvD.eq rfl (EnvD.eq rfl (EnvD.eq rfl (EnvD.eq rfl (EnvD.eq rfl (EnvD.nil)))))))))))))) (TkD.cons _ _ _ _ _ Rem.p0 (HLe.st ⟨⟨trivial, DLe.refl _⟩, DLe.refl _⟩) (TkD.cons _ _ _ _ _ Rem.p0 (HLe.refl _) (TkD.cons _ _ _ _ _ Rem.p0 (HLe.refl _) (TkD.nil _)))) ?_
 rintro m59 v h ⟨k58, x53, ⟨hkk58, hF55⟩, rfl, rfl⟩
 refine GoC.seq ?_
 refine GoC.region ?_
 refine GoO.pure (ps_lss rfl rfl rfl) ?_
 refine GoO.nil ?_
 refine GoK.code ?_
 refine GoC.seq ?_
 refine GoC.condD rfl (fun (hk58 : (k58 : Int) < ((((r12.getD k49 El.d).arcs).length : Nat) : Int)) => ?_) (fun (hk58 : ¬ (k58 : Int) < ((((r12.getD k49 El.d).arcs).length : Nat) : Int)) => ?_)
 obtain ⟨m59', rfl⟩ : ∃ x, m59 = x + 1 := ⟨m59 - 1, by omega⟩
 have hb := bind_l hF55; clear hF55
 obtain ⟨qrm59, H, hF55⟩ := hb
 have hnk58 : k58 < ((r12.getD k49 El.d).arcs).length := by omega
 have hIk58 : InI ((k58 : Int) + 1) := inI_len hk58 ml52
 refine GoC.skip ?_
 refine GoK.code ?_
 refine GoC.seq ?_
 refine GoC.block ?_
 refine GoC.seq ?_
 refine GoC.region ?_
 refine GoO.pure (ps_move rfl rfl) ?_
 refine GoO.pure (ps_indexAddrRN rfl rfl hnk58 rfl) ?_
 refine GoO.pure (ps_loadR rfl hnk58 rfl rfl) ?_
 refine GoO.pure (ps_assign rfl rfl) ?_
 refine GoO.pure (ps_assign rfl rfl) ?_
 refine GoO.nil ?_
 refine GoK.code ?_
 refine GoC.seq ?_
 refine GoC.seq ?_
 refine GoC.region ?_
 refine GoO.pure (ps_move rfl rfl) ?_
 refine GoO.pure (ps_move rfl rfl) ?_
 refine GoO.pure (ps_len rfl (by constructor) rfl) ?_
 refine GoO.pure (ps_geq rfl rfl rfl) ?_
 refine GoO.pure (ps_move rfl rfl) ?_
 refine GoO.guardE rfl rfl rfl rfl (fun h60 => ?_) (fun h60 => ?_)
 replace H := ite_f h60 H
 refine GoO.pure (ps_move rfl rfl) ?_
 refine GoO.guardT rfl rfl rfl ?_
 refine GoO.pure (ps_lss rfl rfl rfl) ?_
 refine GoO.pure (ps_pickF rfl rfl rfl) ?_
 refine GoO.pure (ps_move rfl rfl) ?_
 refine GoO.guardE rfl rfl rfl rfl (fun h61 => ?_) (fun h61 => ?_)
 replace H := ite_f h61 H
 refine GoO.pure (ps_move rfl rfl) ?_
 refine GoO.guardT rfl rfl rfl ?_
 refine GoO.pure (ps_move rfl rfl) ?_
 refine GoO.guardT rfl rfl rfl ?_
 refine GoO.pure (ps_len rfl (by constructor) rfl) ?_
 refine GoO.guardT rfl rfl rfl ?_
 refine GoO.pure (ps_geq rfl rfl rfl) ?_
 refine GoO.pure (ps_pickF rfl rfl rfl) ?_
 refine GoO.nil ?_
 refine GoK.code ?_
 refine GoC.condD rfl (fun h62 => ?_) (fun h62 => ?_)
 replace H := ite_t h62 H
 refine GoC.seq ?_
 refine GoC.region ?_
 refine GoO.pure (ps_assign rfl rfl) ?_
 refine GoO.nil ?_
 refine GoK.code ?_
 obtain rfl := Option.some.inj H
 obtain rfl := Option.some.inj hF55
 obtain rfl := Option.some.inj HK54
 obtain rfl := Option.some.inj hF46
 obtain rfl := Option.some.inj HK45
 exact GoC.retL (ds := [.v (.bool false)]) Try.results5 (ResL.cons (ResD.tmp rfl) (ResL.nil)) (Take.nil _) ⟨rfl, rfl⟩
 replace H := ite_f h62 H
 refine GoC.skip ?_
 refine GoK.code ?_
 refine GoC.drawA (.q 0 (.q 1 (.q 2 (.q 3 (.q 4 (.q 5 (.q 6 (.q 7 (.q 8 (.q 9 (.q 10 (.q 11 (.q 12 (.done)))))))))))))) follows (by kernel_rfl) ?_
 refine GoP.qN rfl (ps_move rfl rfl) ?_
 refine GoP.qN rfl (ps_fieldAddr rfl rfl) ?_
 refine GoP.qN rfl (ps_load rfl At.p0 At.p0 Nat.zero_lt_one rfl rfl) ?_
 refine GoP.qN rfl (ps_move rfl rfl) ?_
 refine GoP.qN rfl (ps_move rfl rfl) ?_
 have c63 := ck_l H; replace H := ck_r H
 refine GoP.qN rfl (ps_indexAddrRN rfl rfl c63 rfl) ?_
 refine GoP.qN rfl (ps_loadR rfl c63 rfl rfl) ?_
 refine GoP.qN rfl (ps_move rfl rfl) ?_
 have c64 := ck_l H; replace H := ck_r H
 refine GoP.qN rfl (ps_indexAddrR rfl rfl c64 rfl) ?_
 refine GoP.qN rfl (ps_loadR rfl (idx_lt c64) rfl rfl) ?_
 have c65 := ck_l H; replace H := ck_r H
 refine GoP.qN rfl (ps_mul rfl rfl rfl c65) ?_
 have c66 := ck_l H; replace H := ck_r H
 refine GoP.qN rfl (ps_add rfl rfl rfl c66) ?_
 refine GoP.qN rfl (ps_assign rfl rfl) ?_
 refine GoP.done ?_
 refine GoK.blk ?_
 refine GoK.code ?_
 refine GoC.region ?_
 refine GoO.pure (ps_add rfl rfl rfl hIk58) ?_
 refine GoO.pure (ps_move rfl rfl) ?_
 refine GoO.nil ?_
 obtain rfl := Option.some.inj H
 exact GoK.againJ m59' (by omega) ⟨_, _, ⟨by omega, hF55⟩, rfl, rfl⟩ (EnvD.eq rfl (EnvD.eq rfl (EnvD.eq rfl (EnvD.eq rfl (EnvD.eq rfl (EnvD.eq rfl (EnvD.eq rfl (EnvD.eq rfl (EnvD.eq rfl (EnvD.eq rfl (EnvD.eq rfl (EnvD.eq rfl (EnvD.eq rfl (EnvD.nil)))))))))))))) (TkD.cons _ _ _ _ _ Rem.p0 (HLe.st ⟨⟨trivial, DLe.refl _⟩, DLe.refl _⟩) (TkD.cons _ _ _ _ _ Rem.p0 (HLe.refl _) (TkD.cons _ _ _ _ _ Rem.p0 (HLe.refl _) (TkD.nil _))))
 replace H := ite_t h61 H
 refine GoO.guardF rfl rfl rfl rfl ?_
 refine GoO.guardF rfl rfl rfl rfl ?_
 refine GoO.guardF rfl rfl rfl rfl ?_
 refine GoO.pure (ps_pickT rfl rfl rfl) ?_
 refine GoO.nil ?_
 refine GoK.code ?_
 refine GoC.condT rfl ?_
 refine GoC.seq ?_
 refine GoC.region ?_
 refine GoO.pure (ps_assign rfl rfl) ?_
 refine GoO.nil ?_
 refine GoK.code ?_
 obtain rfl := Option.some.inj H
 obtain rfl := Option.some.inj hF55
 obtain rfl := Option.some.inj HK54
 obtain rfl := Option.some.inj hF46
 obtain rfl := Option.some.inj HK45
 exact GoC.retL (ds := [.v (.bool false)]) Try.results5 (ResL.cons (ResD.tmp rfl) (ResL.nil)) (Take.nil _) ⟨rfl, rfl⟩
 replace H := ite_t h60 H
 refine GoO.guardF rfl rfl rfl rfl ?_
 refine GoO.pure (ps_pickT rfl rfl rfl) ?_
 refine GoO.pure (ps_move rfl rfl) ?_
 refine GoO.guardF rfl rfl rfl rfl ?_
 refine GoO.guardF rfl rfl rfl rfl ?_
 refine GoO.guardF rfl rfl rfl rfl ?_
 refine GoO.guardF rfl rfl rfl rfl ?_
 refine GoO.pure (ps_pickT rfl rfl rfl) ?_
 refine GoO.nil ?_
 refine GoK.code ?_
 refine GoC.condT rfl ?_
 refine GoC.seq ?_
 refine GoC.region ?_
 refine GoO.pure (ps_assign rfl rfl) ?_
 refine GoO.nil ?_
 refine GoK.code ?_
 obtain rfl := Option.some.inj H
 obtain rfl := Option.some.inj hF55
 obtain rfl := Option.some.inj HK54
 obtain rfl := Option.some.inj hF46
 obtain rfl := Option.some.inj HK45
 exact GoC.retL (ds := [.v (.bool false)]) Try.results5 (ResL.cons (ResD.tmp rfl) (ResL.nil)) (Take.nil _) ⟨rfl, rfl⟩
 obtain rfl : m59 = 0 := by omega
 refine GoC.exit rfl ?_
 cases hF55
 exact GoK.meet ⟨_, rfl, rfl, rfl⟩ (EnvD.eq rfl (EnvD.eq rfl (EnvD.eq rfl (EnvD.eq rfl (EnvD.eq rfl (EnvD.eq rfl (EnvD.eq rfl (EnvD.eq rfl (EnvD.eq rfl (EnvD.nil)))))))))) (TkD.cons _ _ _ _ _ Rem.p0 (HLe.st ⟨⟨trivial, DLe.refl _⟩, DLe.refl _⟩) (TkD.cons _ _ _ _ _ Rem.p0 (HLe.refl _) (TkD.cons _ _ _ _ _ Rem.p0 (HLe.refl _) (TkD.nil _))))
 rintro v h ⟨x57, rfl, rfl, rfl⟩
 have H := HK54; clear HK54
 refine GoK.blk ?_
 refine GoK.code ?_
 refine GoC.region ?_
 refine GoO.pure (ps_add rfl rfl rfl hIk49) ?_
 refine GoO.pure (ps_move rfl rfl) ?_
 refine GoO.nil ?_
 obtain rfl := Option.some.inj H
 exact GoK.againJ m50' (by omega) ⟨_, _, ⟨by omega, hF46⟩, rfl, rfl⟩ (EnvD.eq rfl (EnvD.eq rfl (EnvD.eq rfl (EnvD.eq rfl (EnvD.eq rfl (EnvD.eq rfl (EnvD.eq rfl (EnvD.eq rfl (EnvD.eq rfl (EnvD.nil)))))))))) (TkD.cons _ _ _ _ _ Rem.p1 (HLe.refl _) (TkD.cons _ _ _ _ _ Rem.p1 (HLe.refl _) (TkD.nil _)))
 obtain rfl : m50 = 0 := by omega
 refine GoC.exit rfl ?_
 cases hF46
 exact GoK.meet ⟨_, rfl, rfl, rfl⟩ (EnvD.eq rfl (EnvD.eq rfl (EnvD.eq rfl (EnvD.eq rfl (EnvD.eq rfl (EnvD.nil)))))) (TkD.cons _ _ _ _ _ Rem.p0 (HLe.refl _) (TkD.cons _ _ _ _ _ Rem.p0 (HLe.refl _) (TkD.nil _)))
 rintro v h ⟨x48, rfl, rfl, rfl⟩
 have H := HK45; clear HK45
 refine GoK.code ?_
 refine GoC.seq ?_
 refine GoC.region ?_
 refine GoO.pure (ps_move rfl rfl) ?_
 refine GoO.pure (ps_eql rfl rfl rfl) ?_
 refine GoO.pure (ps_move rfl rfl) ?_
 refine GoO.guardD rfl rfl rfl rfl (fun h69 => ?_) (fun h69 => ?_)
 replace H := ite_t h69 H
 refine GoO.pure (ps_move rfl rfl) ?_
 refine GoO.guardT rfl rfl rfl ?_
 refine GoO.pure (ps_move rfl rfl) ?_
 refine GoO.guardT rfl rfl rfl ?_
 refine GoO.pure (ps_eql rfl rfl rfl) ?_
 refine GoO.pure (ps_pickT rfl rfl rfl) ?_
 refine GoO.pure (ps_move rfl rfl) ?_
 refine GoO.guardD rfl rfl rfl rfl (fun h70 => ?_) (fun h70 => ?_)
 replace H := ite_t h70 H
 refine GoO.pure (ps_move rfl rfl) ?_
 refine GoO.guardT rfl rfl rfl ?_
 refine GoO.pure (ps_move rfl rfl) ?_
 refine GoO.guardT rfl rfl rfl ?_
 refine GoO.pure (ps_move rfl rfl) ?_
 refine GoO.guardT rfl rfl rfl ?_
 have c71 := ck_l H; replace H := ck_r H
 refine GoO.pure (ps_mul rfl rfl rfl c71) ?_
 refine GoO.guardT rfl rfl rfl ?_
 refine GoO.pure (ps_leq rfl rfl rfl) ?_
 refine GoO.pure (ps_pickT rfl rfl rfl) ?_
 refine GoO.pure (ps_assign rfl rfl) ?_
 refine GoO.nil ?_
 refine GoK.code ?_
 obtain rfl := Option.some.inj H
 exact GoC.retL (ds := [.v (.bool (decide (x26 ≤ (r4 * r9))))]) Try.results5 (ResL.cons (ResD.tmp rfl) (ResL.nil)) (Take.nil _) ⟨rfl, rfl⟩
 replace H := ite_f h70 H
 refine GoO.guardF rfl rfl rfl rfl ?_
 refine GoO.guardF rfl rfl rfl rfl ?_
 refine GoO.guardF rfl rfl rfl rfl ?_
 refine GoO.guardF rfl rfl rfl rfl ?_
 refine GoO.pure (ps_pickF rfl rfl rfl) ?_
 refine GoO.pure (ps_assign rfl rfl) ?_
 refine GoO.nil ?_
 refine GoK.code ?_
 obtain rfl := Option.some.inj H
 exact GoC.retL (ds := [.v (.bool false)]) Try.results5 (ResL.cons (ResD.tmp rfl) (ResL.nil)) (Take.nil _) ⟨rfl, rfl⟩
 replace H := ite_f h69 H
 refine GoO.guardF rfl rfl rfl rfl ?_
 refine GoO.guardF rfl rfl rfl rfl ?_
 refine GoO.pure (ps_pickF rfl rfl rfl) ?_
 refine GoO.pure (ps_move rfl rfl) ?_
 refine GoO.guardF rfl rfl rfl rfl ?_
 refine GoO.guardF rfl rfl rfl rfl ?_
 refine GoO.guardF rfl rfl rfl rfl ?_
 refine GoO.guardF rfl rfl rfl rfl ?_
 refine GoO.guardF rfl rfl rfl rfl ?_
 refine GoO.pure (ps_pickF rfl rfl rfl) ?_
 refine GoO.pure (ps_assign rfl rfl) ?_
 refine GoO.nil ?_
 refine GoK.code ?_
 obtain rfl := Option.some.inj H
 exact GoC.retL (ds := [.v (.bool false)]) Try.results5 (ResL.cons (ResD.tmp rfl) (ResL.nil)) (Take.nil _) ⟨rfl, rfl⟩
 replace H := ite_t h17 H
 refine GoO.guardF rfl rfl rfl rfl ?_
 refine GoO.guardF rfl rfl rfl rfl ?_
 refine GoO.guardF rfl rfl rfl rfl ?_
 refine GoO.guardF rfl rfl rfl rfl ?_
 refine GoO.pure (ps_pickT rfl rfl rfl) ?_
 refine GoO.nil ?_
 refine GoK.code ?_
 refine GoC.condT rfl ?_
 refine GoC.seq ?_
 refine GoC.region ?_
 refine GoO.pure (ps_move rfl rfl) ?_
 refine GoO.pure (ps_eql rfl rfl rfl) ?_
 refine GoO.pure (ps_move rfl rfl) ?_
 refine GoO.guardE rfl rfl rfl rfl (fun h72 => ?_) (fun h72 => ?_)
 replace H := ite_f h72 H
 refine GoO.pure (ps_move rfl rfl) ?_
 refine GoO.guardT rfl rfl rfl ?_
 refine GoO.pure (ps_eql rfl rfl rfl) ?_
 refine GoO.pure (ps_pickF rfl rfl rfl) ?_
 refine GoO.pure (ps_assign rfl rfl) ?_
 refine GoO.nil ?_
 refine GoK.code ?_
 obtain rfl := Option.some.inj H
 exact GoC.retL (ds := [.v (.bool (decide (r4 = 0)))]) Try.results5 (ResL.cons (ResD.tmp rfl) (ResL.nil)) (Take.nil _) ⟨rfl, rfl⟩
 replace H := ite_t h72 H
 refine GoO.guardF rfl rfl rfl rfl ?_
 refine GoO.pure (ps_pickT rfl rfl rfl) ?_
 refine GoO.pure (ps_assign rfl rfl) ?_
 refine GoO.nil ?_
 refine GoK.code ?_
 obtain rfl := Option.some.inj H
 exact GoC.retL (ds := [.v (.bool true)]) Try.results5 (ResL.cons (ResD.tmp rfl) (ResL.nil)) (Take.nil _) ⟨rfl, rfl⟩
 replace H := ite_t h16 H
 refine GoO.guardF rfl rfl rfl rfl ?_
 refine GoO.pure (ps_pickT rfl rfl rfl) ?_
 refine GoO.pure (ps_move rfl rfl) ?_
 refine GoO.guardF rfl rfl rfl rfl ?_
 refine GoO.guardF rfl rfl rfl rfl ?_
 refine GoO.guardF rfl rfl rfl rfl ?_
 refine GoO.guardF rfl rfl rfl rfl ?_
 refine GoO.guardF rfl rfl rfl rfl ?_
 refine GoO.pure (ps_pickT rfl rfl rfl) ?_
 refine GoO.nil ?_
 refine GoK.code ?_
 refine GoC.condT rfl ?_
 refine GoC.seq ?_
 refine GoC.region ?_
 refine GoO.pure (ps_move rfl rfl) ?_
 refine GoO.pure (ps_eql rfl rfl rfl) ?_
 refine GoO.pure (ps_move rfl rfl) ?_
 refine GoO.guardE rfl rfl rfl rfl (fun h73 => ?_) (fun h73 => ?_)
 replace H := ite_f h73 H
 refine GoO.pure (ps_move rfl rfl) ?_
 refine GoO.guardT rfl rfl rfl ?_
 refine GoO.pure (ps_eql rfl rfl rfl) ?_
 refine GoO.pure (ps_pickF rfl rfl rfl) ?_
 refine GoO.pure (ps_assign rfl rfl) ?_
 refine GoO.nil ?_
 refine GoK.code ?_
 obtain rfl := Option.some.inj H
 exact GoC.retL (ds := [.v (.bool (decide (r4 = 0)))]) Try.results5 (ResL.cons (ResD.tmp rfl) (ResL.nil)) (Take.nil _) ⟨rfl, rfl⟩
 replace H := ite_t h73 H
 refine GoO.guardF rfl rfl rfl rfl ?_
 refine GoO.pure (ps_pickT rfl rfl rfl) ?_
 refine GoO.pure (ps_assign rfl rfl) ?_
 refine GoO.nil ?_
 refine GoK.code ?_
 obtain rfl := Option.some.inj H
 exact GoC.retL (ds := [.v (.bool true)]) Try.results5 (ResL.cons (ResD.tmp rfl) (ResL.nil)) (Take.nil _) ⟨rfl, rfl⟩

end Go.Proofs.Ytmdpjhclgofbfaa
