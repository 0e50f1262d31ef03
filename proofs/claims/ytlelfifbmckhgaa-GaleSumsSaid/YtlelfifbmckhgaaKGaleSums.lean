/- The functions weirkeep.GaleSums, told as plain functions, and that the code does as they say. -/
import Derived.Test.YtlelfifbmckhgaaTys
import Derived.Test.YtlelfifbmckhgaaDat
import Derived.Test.YtlelfifbmckhgaaGgale
import Derived.Test.YtlelfifbmckhgaaGkeep
import Derived.Test.YtlelfifbmckhgaaGref
namespace Go.Proofs.Ytlelfifbmckhgaa
open Go Go.Proofs.Ytlelfifbmckhgaa.Sx
set_option linter.unusedVariables false
set_option linter.unusedSimpArgs false
def weirkeep_GaleSums_B1 (rows : (List Int)) (cols : (List Int)) (r4 : (List U16)) : Nat → Unit → Option (Ct (Unit) (Bool)) := fun k14 _ =>
 if ((rows.length : Nat) : Int) ≤ ((k14 : Nat) : Int) then
  some (.ret false)
 else
  ck (k14 < rows.length) <|
  (weirref_Ones_F (IntKind.i64.wrap ((r4.getD k14 El.d).v))).bind fun r18 =>
  if r18 ≠ (rows.getD k14 (0 : Int)) then
   some (.ret false)
  else
   if (IntKind.i64.wrap (1 * 2 ^ min cols.length 64)) ≤ (IntKind.i64.wrap ((r4.getD k14 El.d).v)) then
    some (.ret false)
   else
    some (.go ())
def weirkeep_GaleSums_B3 (r4 : (List U16)) (k27 : Nat) : Nat → Int → Option (Int) := fun k34 x29 =>
 ck (InI (x29 + (IntKind.i64.wrap (bitsOf .and .u16 (Int.fdiv ((r4.getD k34 El.d).v) (2 ^ min k27 16)) 1)))) <|
 some (x29 + (IntKind.i64.wrap (bitsOf .and .u16 (Int.fdiv ((r4.getD k34 El.d).v) (2 ^ min k27 16)) 1)))
def weirkeep_GaleSums_B2 (cols : (List Int)) (r4 : (List U16)) : Nat → Unit → Option (Ct (Unit) (Bool)) := fun k27 _ =>
 (forN (weirkeep_GaleSums_B3 r4 k27) r4.length 0 0).bind fun x33 =>
 if x33 ≠ (cols.getD k27 (0 : Int)) then
  some (.ret false)
 else
  some (.go ())
def weirkeep_GaleSums_F (rows : (List Int)) (cols : (List Int)) : Option (Bool) :=
 (weirkeep_gales_F).bind fun r1 =>
 if (!r1) = true then
  some false
 else
  (gale_Make_F rows cols).bind fun (r4, r6) =>
  if r6 ≠ 0 then
   some (decide (((r4.length : Nat) : Int) = 0))
  else
   (forC (weirkeep_GaleSums_B1 rows cols r4) r4.length 0 ()).bind fun q => match q with
   | .go _ =>
    (forC (weirkeep_GaleSums_B2 cols r4) cols.length 0 ()).bind fun q => match q with
    | .go _ =>
     some (decide (((r4.length : Nat) : Int) = ((rows.length : Nat) : Int)))
    | .ret x => some x
   | .ret x => some x
def weirkeep_GaleSums_P (out : Bool) (d : D) (H : List HL) : Prop := d = .v (.bool out) ∧ H = []
theorem weirkeep_GaleSums_I (out : Bool) : IndepP (weirkeep_GaleSums_P out) := IndepP.of (by rintro _ _ ⟨rfl, rfl⟩; exact ⟨inferInstance, inferInstance⟩)
set_option maxRecDepth 100000 in
set_option maxHeartbeats 4000000 in
theorem weirkeep_GaleSums_spec (rows : (List Int)) (cols : (List Int)) {out : Bool} (H : weirkeep_GaleSums_F rows cols = some out) : Does Try.prog 12 [slD rows, slD cols] [] (weirkeep_GaleSums_P out) := by
 unfold weirkeep_GaleSums_F at H
 refine Does.intro Try.func12 rfl Try.ntmps12 rfl fun w0 I0 => ?_
 refine GoC.seq ?_
 refine GoC.region ?_
 refine GoO.pure (ps_assign rfl rfl) ?_
 refine GoO.nil ?_
 refine GoK.code ?_
 refine GoC.seq ?_
 refine GoC.seq ?_
 refine GoC.region ?_
 have hb := bind_l H; clear H
 obtain ⟨r1, e2, H⟩ := hb
 refine GoO.effC (ef_call rfl (Take.nil _) (Take.nil _) (weirkeep_gales_spec e2) (LendL.nil) rfl (weirkeep_gales_I (r1))) (fun rr HH hp => ?_)
 obtain ⟨rfl, rfl⟩ := hp
 refine GoO.pure (ps_not rfl rfl) ?_
 refine GoO.nil ?_
 refine GoK.code ?_
 refine GoC.cond rfl (fun h3 => ?_) (fun h3 => ?_)
 replace H := itb_t h3 H
 refine GoC.seq ?_
 refine GoC.region ?_
 refine GoO.pure (ps_assign rfl rfl) ?_
 refine GoO.nil ?_
 refine GoK.code ?_
 obtain rfl := Option.some.inj H
 exact GoC.retL (ds := [.v (.bool false)]) Try.results12 (ResL.cons (ResD.tmp rfl) (ResL.nil)) (Take.nil _) ⟨rfl, rfl⟩
 replace H := itb_f h3 H
 refine GoC.skip ?_
 refine GoK.code ?_
 refine GoC.seq ?_
 refine GoC.region ?_
 refine GoO.pure (ps_move rfl rfl) ?_
 refine GoO.pure (ps_move rfl rfl) ?_
 have hb := bind_l H; clear H
 obtain ⟨⟨r4, r6⟩, e7, H⟩ := hb
 refine GoO.effC (ef_call rfl (Take.nil _) (Take.nil _) (gale_Make_spec rows cols e7) (LendL.cons (Lend.refl _ _) (LendL.cons (Lend.refl _ _) (LendL.nil))) rfl (gale_Make_I (r4, r6))) (fun rr HH hp => ?_)
 obtain ⟨β5, rfl, rfl⟩ := hp
 refine GoO.pure (ps_move rfl rfl) ?_
 refine GoO.pure (ps_extract rfl rfl rfl) ?_
 refine GoO.pure (ps_extract rfl rfl rfl) ?_
 refine GoO.pure (ps_assign rfl rfl) ?_
 refine GoO.pure (ps_assign rfl rfl) ?_
 refine GoO.nil ?_
 refine GoK.code ?_
 refine GoC.seq ?_
 refine GoC.seq ?_
 refine GoC.region ?_
 refine GoO.pure (ps_move rfl rfl) ?_
 refine GoO.pure (ps_neq rfl rfl rfl) ?_
 refine GoO.nil ?_
 refine GoK.code ?_
 refine GoC.condD rfl (fun h8 => ?_) (fun h8 => ?_)
 replace H := ite_t h8 H
 refine GoC.seq ?_
 refine GoC.region ?_
 refine GoO.pure (ps_move rfl rfl) ?_
 refine GoO.pure (ps_len rfl (by constructor) rfl) ?_
 refine GoO.lenLe (n := r4.length) (x := .tmp 24) rfl (by constructor) own_lenLe (fun ml9 => ?_)
 refine GoO.pure (ps_eql rfl rfl rfl) ?_
 refine GoO.pure (ps_assign rfl rfl) ?_
 refine GoO.nil ?_
 refine GoK.code ?_
 obtain rfl := Option.some.inj H
 exact GoC.retL (ds := [.v (.bool (decide (((r4.length : Nat) : Int) = 0)))]) Try.results12 (ResL.cons (ResD.tmp rfl) (ResL.nil)) (Take.nil _) ⟨rfl, rfl⟩
 replace H := ite_f h8 H
 refine GoC.skip ?_
 refine GoK.code ?_
 refine GoC.seq ?_
 refine GoC.seq ?_
 refine GoC.region ?_
 refine GoO.pure (ps_move rfl rfl) ?_
 refine GoO.pure (ps_len rfl (by constructor) rfl) ?_
 refine GoO.lenLe (n := r4.length) (x := .tmp 27) rfl (by constructor) own_lenLe (fun ml10 => ?_)
 refine GoO.pure (ps_move rfl rfl) ?_
 refine GoO.nil ?_
 refine GoK.code ?_
 have hb := bind_l H; clear H
 obtain ⟨q13, hl22, HK11⟩ := hb
 refine GoC.blockJ [(0, slD rows), (1, slD cols), (5, .own β5 1 0 r4.length)] [.one β5 24 1 (row r4)] (fun v h => q13 = .go () ∧ v = [] ∧ h = []) ?_ ?_
 refine GoC.loopJ [(0, _), (1, _), (5, _), (27, _), (28, _)] [.one β5 24 1 (row r4)] (fun m v h => ∃ (k14 : Nat), (k14 + m = r4.length ∧ forC (weirkeep_GaleSums_B1 rows cols r4) m k14 () = some q13) ∧ v = [(29, .v (.int .i64 ((k14 : Nat) : Int)))] ∧ h = []) r4.length ⟨_, ⟨by omega, hl22⟩, rfl, rfl⟩ (EnvD.eq rfl (EnvD.eq rfl (EnvD.eq rfl (EnvD.eq rfl (EnvD.eq rfl (EnvD.eq rfl (EnvD.nil))))))) (TkD.cons _ _ _ _ _ Rem.p0 (HLe.refl _) (TkD.nil _)) ?_
 rintro m15 v h ⟨k14, ⟨hkk14, hF12⟩, rfl, rfl⟩
 refine GoC.seq ?_
 refine GoC.region ?_
 refine GoO.pure (ps_lss rfl rfl rfl) ?_
 refine GoO.nil ?_
 refine GoK.code ?_
 refine GoC.seq ?_
 refine GoC.condD rfl (fun (hk14 : (k14 : Int) < ((r4.length : Nat) : Int)) => ?_) (fun (hk14 : ¬ (k14 : Int) < ((r4.length : Nat) : Int)) => ?_)
 obtain ⟨m15', rfl⟩ : ∃ x, m15 = x + 1 := ⟨m15 - 1, by omega⟩
 have hb := bind_l hF12; clear hF12
 obtain ⟨qrm15, H, hF12⟩ := hb
 have hnk14 : k14 < r4.length := by omega
 have hIk14 : InI ((k14 : Int) + 1) := inI_len hk14 ml10
 refine GoC.skip ?_
 refine GoK.code ?_
 refine GoC.seq ?_
 refine GoC.block ?_
 refine GoC.seq ?_
 refine GoC.region ?_
 refine GoO.pure (ps_move rfl rfl) ?_
 refine GoO.pure (ps_indexAddr0N rfl rfl hnk14 rfl) ?_
 refine GoO.pure (ps_load rfl At.p0 At.p0 hnk14 rfl rfl) ?_
 refine GoO.pure (ps_assign rfl rfl) ?_
 refine GoO.pure (ps_assign rfl rfl) ?_
 refine GoO.nil ?_
 refine GoK.code ?_
 refine GoC.seq ?_
 refine GoC.drawA (.q 0 (.q 1 (.q 2 (.q 3 (.q 4 (.q 5 (.q 6 (.q 8 (.q 9 (.q 10 (.q 11 (.one 7 (.q 12 (.q 13 (.q 14 (.q 15 (.q 16 (.q 17 (.q 18 (.q 19 (.q 20 (.q 21 (.done))))))))))))))))))))))) follows (by kernel_rfl) ?_
 refine GoP.qN rfl (ps_move rfl rfl) ?_
 refine GoP.qN rfl (ps_move rfl rfl) ?_
 refine GoP.qN rfl (ps_len rfl (by constructor) rfl) ?_
 refine GoP.qN rfl (ps_geq rfl rfl rfl) ?_
 refine GoP.qN rfl (ps_move rfl rfl) ?_
 refine GoP.decideD 38 rfl (fun h16 => ?_) (fun h16 => ?_)
 replace H := ite_t h16 H
 refine GoP.qF rfl rfl rfl rfl rfl ?_
 refine GoP.qF rfl rfl rfl rfl rfl ?_
 refine GoP.qF rfl rfl rfl rfl rfl ?_
 refine GoP.qF rfl rfl rfl rfl rfl ?_
 refine GoP.qF rfl rfl rfl rfl rfl ?_
 refine GoP.qF rfl rfl rfl rfl rfl ?_
 refine GoP.oneF rfl rfl rfl rfl rfl ?_
 refine GoP.qF rfl rfl rfl rfl rfl ?_
 refine GoP.qN rfl (ps_pickT rfl rfl rfl) ?_
 refine GoP.qN rfl (ps_move rfl rfl) ?_
 refine GoP.qF rfl rfl rfl rfl rfl ?_
 refine GoP.qF rfl rfl rfl rfl rfl ?_
 refine GoP.qF rfl rfl rfl rfl rfl ?_
 refine GoP.qF rfl rfl rfl rfl rfl ?_
 refine GoP.qF rfl rfl rfl rfl rfl ?_
 refine GoP.qF rfl rfl rfl rfl rfl ?_
 refine GoP.qN rfl (ps_pickT rfl rfl rfl) ?_
 refine GoP.done ?_
 refine GoK.code ?_
 refine GoC.condT rfl ?_
 refine GoC.seq ?_
 refine GoC.region ?_
 refine GoO.pure (ps_assign rfl rfl) ?_
 refine GoO.nil ?_
 refine GoK.code ?_
 obtain rfl := Option.some.inj H
 obtain rfl := Option.some.inj hF12
 obtain rfl := Option.some.inj HK11
 exact GoC.retL (ds := [.v (.bool false)]) Try.results12 (ResL.cons (ResD.tmp rfl) (ResL.nil)) (Take.nil _) ⟨rfl, rfl⟩
 replace H := ite_f h16 H
 refine GoP.qT rfl rfl rfl rfl (ps_move rfl rfl) ?_
 refine GoP.qT rfl rfl rfl rfl (ps_convK rfl rfl) ?_
 refine GoP.qT rfl rfl rfl rfl (ps_move rfl rfl) ?_
 refine GoP.qT rfl rfl rfl rfl (ps_move rfl rfl) ?_
 have c17 := ck_l H; replace H := ck_r H
 refine GoP.qT rfl rfl rfl rfl (ps_indexAddrRN rfl rfl c17 rfl) ?_
 refine GoP.qT rfl rfl rfl rfl (ps_loadR rfl c17 rfl rfl) ?_
 have hb := bind_l H; clear H
 obtain ⟨r18, e19, H⟩ := hb
 refine GoP.oneC rfl ⟨_, rfl, rfl, rfl⟩ (ef_call rfl (Take.nil _) (Take.nil _) (weirref_Ones_spec (IntKind.i64.wrap ((r4.getD k14 El.d).v)) e19) (LendL.cons (Lend.refl _ _) (LendL.nil)) rfl (weirref_Ones_I (r18))) (Take.cons _ _ _ _ _ Rem.p0 (Take.nil _)) (fun rr HH hp => ?_)
 obtain ⟨rfl, rfl⟩ := hp
 refine GoP.qT rfl rfl rfl rfl (ps_neq rfl rfl rfl) ?_
 refine GoP.qN rfl (ps_pickF rfl rfl rfl) ?_
 refine GoP.qN rfl (ps_move rfl rfl) ?_
 refine GoP.decideD 48 rfl (fun h20 => ?_) (fun h20 => ?_)
 replace H := ite_t h20 H
 refine GoP.qF rfl rfl rfl rfl rfl ?_
 refine GoP.qF rfl rfl rfl rfl rfl ?_
 refine GoP.qF rfl rfl rfl rfl rfl ?_
 refine GoP.qF rfl rfl rfl rfl rfl ?_
 refine GoP.qF rfl rfl rfl rfl rfl ?_
 refine GoP.qF rfl rfl rfl rfl rfl ?_
 refine GoP.qN rfl (ps_pickT rfl rfl rfl) ?_
 refine GoP.done ?_
 refine GoK.code ?_
 refine GoC.condT rfl ?_
 refine GoC.seq ?_
 refine GoC.region ?_
 refine GoO.pure (ps_assign rfl rfl) ?_
 refine GoO.nil ?_
 refine GoK.code ?_
 obtain rfl := Option.some.inj H
 obtain rfl := Option.some.inj hF12
 obtain rfl := Option.some.inj HK11
 exact GoC.retL (ds := [.v (.bool false)]) Try.results12 (ResL.cons (ResD.tmp rfl) (ResL.nil)) (Take.nil _) ⟨rfl, rfl⟩
 replace H := ite_f h20 H
 refine GoP.qT rfl rfl rfl rfl (ps_move rfl rfl) ?_
 refine GoP.qT rfl rfl rfl rfl (ps_convK rfl rfl) ?_
 refine GoP.qT rfl rfl rfl rfl (ps_move rfl rfl) ?_
 refine GoP.qT rfl rfl rfl rfl (ps_len rfl (by constructor) rfl) ?_
 refine GoP.qT rfl rfl rfl rfl (ps_shl rfl rfl rfl (by omega)) ?_
 refine GoP.qT rfl rfl rfl rfl (ps_geq rfl rfl rfl) ?_
 refine GoP.qN rfl (ps_pickF rfl rfl rfl) ?_
 refine GoP.done ?_
 refine GoK.code ?_
 refine GoC.condD rfl (fun h21 => ?_) (fun h21 => ?_)
 replace H := ite_t h21 H
 refine GoC.seq ?_
 refine GoC.region ?_
 refine GoO.pure (ps_assign rfl rfl) ?_
 refine GoO.nil ?_
 refine GoK.code ?_
 obtain rfl := Option.some.inj H
 obtain rfl := Option.some.inj hF12
 obtain rfl := Option.some.inj HK11
 exact GoC.retL (ds := [.v (.bool false)]) Try.results12 (ResL.cons (ResD.tmp rfl) (ResL.nil)) (Take.nil _) ⟨rfl, rfl⟩
 replace H := ite_f h21 H
 refine GoC.skip ?_
 refine GoK.blk ?_
 refine GoK.code ?_
 refine GoC.region ?_
 refine GoO.pure (ps_add rfl rfl rfl hIk14) ?_
 refine GoO.pure (ps_move rfl rfl) ?_
 refine GoO.nil ?_
 obtain rfl := Option.some.inj H
 exact GoK.againJ m15' (by omega) ⟨_, ⟨by omega, hF12⟩, rfl, rfl⟩ (EnvD.eq rfl (EnvD.eq rfl (EnvD.eq rfl (EnvD.eq rfl (EnvD.eq rfl (EnvD.eq rfl (EnvD.nil))))))) (TkD.cons _ _ _ _ _ Rem.p0 (HLe.refl _) (TkD.nil _))
 obtain rfl : m15 = 0 := by omega
 refine GoC.exit rfl ?_
 cases hF12
 exact GoK.meet ⟨rfl, rfl, rfl⟩ (EnvD.eq rfl (EnvD.eq rfl (EnvD.eq rfl (EnvD.nil)))) (TkD.cons _ _ _ _ _ Rem.p0 (HLe.refl _) (TkD.nil _))
 rintro v h ⟨rfl, rfl, rfl⟩
 have H := HK11; clear HK11
 refine GoK.code ?_
 refine GoC.seq ?_
 refine GoC.seq ?_
 refine GoC.region ?_
 refine GoO.pure (ps_move rfl rfl) ?_
 refine GoO.pure (ps_len rfl (by constructor) rfl) ?_
 refine GoO.lenLe (n := cols.length) (x := .tmp 57) rfl (by constructor) sl_lenLe (fun ml23 => ?_)
 refine GoO.pure (ps_move rfl rfl) ?_
 refine GoO.nil ?_
 refine GoK.code ?_
 have hb := bind_l H; clear H
 obtain ⟨q26, hl39, HK24⟩ := hb
 refine GoC.blockJ [(0, slD rows), (5, .own β5 1 0 r4.length)] [.one β5 24 1 (row r4)] (fun v h => q26 = .go () ∧ v = [] ∧ h = []) ?_ ?_
 refine GoC.loopJ [(0, _), (5, _), (57, _), (58, _)] [.one β5 24 1 (row r4)] (fun m v h => ∃ (k27 : Nat), (k27 + m = cols.length ∧ forC (weirkeep_GaleSums_B2 cols r4) m k27 () = some q26) ∧ v = [(59, .v (.int .i64 ((k27 : Nat) : Int)))] ∧ h = []) cols.length ⟨_, ⟨by omega, hl39⟩, rfl, rfl⟩ (EnvD.eq rfl (EnvD.eq rfl (EnvD.eq rfl (EnvD.eq rfl (EnvD.eq rfl (EnvD.nil)))))) (TkD.cons _ _ _ _ _ Rem.p0 (HLe.refl _) (TkD.nil _)) ?_
 rintro m28 v h ⟨k27, ⟨hkk27, hF25⟩, rfl, rfl⟩
 refine GoC.seq ?_
 refine GoC.region ?_
 refine GoO.pure (ps_lss rfl rfl rfl) ?_
 refine GoO.nil ?_
 refine GoK.code ?_
 refine GoC.seq ?_
 refine GoC.condD rfl (fun (hk27 : (k27 : Int) < ((cols.length : Nat) : Int)) => ?_) (fun (hk27 : ¬ (k27 : Int) < ((cols.length : Nat) : Int)) => ?_)
 obtain ⟨m28', rfl⟩ : ∃ x, m28 = x + 1 := ⟨m28 - 1, by omega⟩
 have hb := bind_l hF25; clear hF25
 obtain ⟨qrm28, H, hF25⟩ := hb
 have hnk27 : k27 < cols.length := by omega
 have hIk27 : InI ((k27 : Int) + 1) := inI_len hk27 ml23
 refine GoC.skip ?_
 refine GoK.code ?_
 refine GoC.seq ?_
 refine GoC.block ?_
 refine GoC.seq ?_
 refine GoC.region ?_
 refine GoO.pure (ps_move rfl rfl) ?_
 refine GoO.pure (ps_indexAddrRN rfl rfl hnk27 rfl) ?_
 refine GoO.pure (ps_loadR rfl hnk27 rfl rfl) ?_
 refine GoO.pure (ps_assign rfl rfl) ?_
 refine GoO.pure (ps_assign rfl rfl) ?_
 refine GoO.nil ?_
 refine GoK.code ?_
 refine GoC.seq ?_
 refine GoC.region ?_
 refine GoO.pure (ps_assign rfl rfl) ?_
 refine GoO.nil ?_
 refine GoK.code ?_
 refine GoC.seq ?_
 refine GoC.seq ?_
 refine GoC.region ?_
 refine GoO.pure (ps_move rfl rfl) ?_
 refine GoO.pure (ps_len rfl (by constructor) rfl) ?_
 refine GoO.pure (ps_move rfl rfl) ?_
 refine GoO.nil ?_
 refine GoK.code ?_
 have hb := bind_l H; clear H
 obtain ⟨x33, hl37, HK30⟩ := hb
 refine GoC.blockJ [(0, slD rows), (5, .own β5 1 0 r4.length), (10, .v (.int .i64 (cols.getD k27 (0 : Int)))), (57, slD cols), (58, .v (.int .i64 ((cols.length : Nat) : Int))), (59, .v (.int .i64 ((k27 : Nat) : Int)))] [.one β5 24 1 (row r4)] (fun v h => v = [(11, .v (.int .i64 x33))] ∧ h = []) ?_ ?_
 refine GoC.loopJ [(0, _), (5, _), (9, _), (10, _), (57, _), (58, _), (59, _), (64, _), (65, _)] [.one β5 24 1 (row r4)] (fun m v h => ∃ (k34 : Nat) (x29 : Int), (k34 + m = r4.length ∧ forN (weirkeep_GaleSums_B3 r4 k27) m k34 x29 = some x33) ∧ v = [(66, .v (.int .i64 ((k34 : Nat) : Int))), (11, .v (.int .i64 x29))] ∧ h = []) r4.length ⟨_, _, ⟨by omega, hl37⟩, rfl, rfl⟩ (EnvD.eq rfl (EnvD.eq rfl (EnvD.eq rfl (EnvD.eq rfl (EnvD.eq rfl (EnvD.eq rfl (EnvD.eq rfl (EnvD.eq rfl (EnvD.eq rfl (EnvD.eq rfl (EnvD.eq rfl (EnvD.nil)))))))))))) (TkD.cons _ _ _ _ _ Rem.p0 (HLe.refl _) (TkD.nil _)) ?_
 rintro m35 v h ⟨k34, x29, ⟨hkk34, hF31⟩, rfl, rfl⟩
 refine GoC.seq ?_
 refine GoC.region ?_
 refine GoO.pure (ps_lss rfl rfl rfl) ?_
 refine GoO.nil ?_
 refine GoK.code ?_
 refine GoC.seq ?_
 refine GoC.condD rfl (fun (hk34 : (k34 : Int) < ((r4.length : Nat) : Int)) => ?_) (fun (hk34 : ¬ (k34 : Int) < ((r4.length : Nat) : Int)) => ?_)
 obtain ⟨m35', rfl⟩ : ∃ x, m35 = x + 1 := ⟨m35 - 1, by omega⟩
 have hb := bind_l hF31; clear hF31
 obtain ⟨qrm35, H, hF31⟩ := hb
 have hnk34 : k34 < r4.length := by omega
 have hIk34 : InI ((k34 : Int) + 1) := inI_len hk34 ml10
 refine GoC.skip ?_
 refine GoK.code ?_
 refine GoC.seq ?_
 refine GoC.block ?_
 refine GoC.seq ?_
 refine GoC.region ?_
 refine GoO.pure (ps_indexAddr0N rfl rfl hnk34 rfl) ?_
 refine GoO.pure (ps_load rfl At.p0 At.p0 hnk34 rfl rfl) ?_
 refine GoO.pure (ps_assign rfl rfl) ?_
 refine GoO.nil ?_
 refine GoK.code ?_
 refine GoC.region ?_
 refine GoO.pure (ps_move rfl rfl) ?_
 refine GoO.pure (ps_move rfl rfl) ?_
 refine GoO.pure (ps_move rfl rfl) ?_
 refine GoO.pure (ps_shr rfl rfl rfl (by omega)) ?_
 refine GoO.pure (ps_and rfl rfl rfl) ?_
 refine GoO.pure (ps_convK rfl rfl) ?_
 have c36 := ck_l H; replace H := ck_r H
 refine GoO.pure (ps_add rfl rfl rfl c36) ?_
 refine GoO.pure (ps_assign rfl rfl) ?_
 refine GoO.nil ?_
 refine GoK.blk ?_
 refine GoK.code ?_
 refine GoC.region ?_
 refine GoO.pure (ps_add rfl rfl rfl hIk34) ?_
 refine GoO.pure (ps_move rfl rfl) ?_
 refine GoO.nil ?_
 obtain rfl := Option.some.inj H
 exact GoK.againJ m35' (by omega) ⟨_, _, ⟨by omega, hF31⟩, rfl, rfl⟩ (EnvD.eq rfl (EnvD.eq rfl (EnvD.eq rfl (EnvD.eq rfl (EnvD.eq rfl (EnvD.eq rfl (EnvD.eq rfl (EnvD.eq rfl (EnvD.eq rfl (EnvD.eq rfl (EnvD.eq rfl (EnvD.nil)))))))))))) (TkD.cons _ _ _ _ _ Rem.p0 (HLe.refl _) (TkD.nil _))
 obtain rfl : m35 = 0 := by omega
 refine GoC.exit rfl ?_
 cases hF31
 exact GoK.meet ⟨rfl, rfl⟩ (EnvD.eq rfl (EnvD.eq rfl (EnvD.eq rfl (EnvD.eq rfl (EnvD.eq rfl (EnvD.eq rfl (EnvD.eq rfl (EnvD.nil)))))))) (TkD.cons _ _ _ _ _ Rem.p0 (HLe.refl _) (TkD.nil _))
 rintro v h ⟨rfl, rfl⟩
 have H := HK30; clear HK30
 refine GoK.code ?_
 refine GoC.seq ?_
 refine GoC.region ?_
 refine GoO.pure (ps_move rfl rfl) ?_
 refine GoO.pure (ps_move rfl rfl) ?_
 refine GoO.pure (ps_neq rfl rfl rfl) ?_
 refine GoO.nil ?_
 refine GoK.code ?_
 refine GoC.condD rfl (fun h38 => ?_) (fun h38 => ?_)
 replace H := ite_t h38 H
 refine GoC.seq ?_
 refine GoC.region ?_
 refine GoO.pure (ps_assign rfl rfl) ?_
 refine GoO.nil ?_
 refine GoK.code ?_
 obtain rfl := Option.some.inj H
 obtain rfl := Option.some.inj hF25
 obtain rfl := Option.some.inj HK24
 exact GoC.retL (ds := [.v (.bool false)]) Try.results12 (ResL.cons (ResD.tmp rfl) (ResL.nil)) (Take.nil _) ⟨rfl, rfl⟩
 replace H := ite_f h38 H
 refine GoC.skip ?_
 refine GoK.blk ?_
 refine GoK.code ?_
 refine GoC.region ?_
 refine GoO.pure (ps_add rfl rfl rfl hIk27) ?_
 refine GoO.pure (ps_move rfl rfl) ?_
 refine GoO.nil ?_
 obtain rfl := Option.some.inj H
 exact GoK.againJ m28' (by omega) ⟨_, ⟨by omega, hF25⟩, rfl, rfl⟩ (EnvD.eq rfl (EnvD.eq rfl (EnvD.eq rfl (EnvD.eq rfl (EnvD.eq rfl (EnvD.nil)))))) (TkD.cons _ _ _ _ _ Rem.p0 (HLe.refl _) (TkD.nil _))
 obtain rfl : m28 = 0 := by omega
 refine GoC.exit rfl ?_
 cases hF25
 exact GoK.meet ⟨rfl, rfl, rfl⟩ (EnvD.eq rfl (EnvD.eq rfl (EnvD.nil))) (TkD.cons _ _ _ _ _ Rem.p0 (HLe.refl _) (TkD.nil _))
 rintro v h ⟨rfl, rfl, rfl⟩
 have H := HK24; clear HK24
 refine GoK.code ?_
 refine GoC.seq ?_
 refine GoC.region ?_
 refine GoO.pure (ps_move rfl rfl) ?_
 refine GoO.pure (ps_len rfl (by constructor) rfl) ?_
 refine GoO.pure (ps_move rfl rfl) ?_
 refine GoO.pure (ps_len rfl (by constructor) rfl) ?_
 refine GoO.lenLe (n := rows.length) (x := .tmp 84) rfl (by constructor) sl_lenLe (fun ml40 => ?_)
 refine GoO.pure (ps_eql rfl rfl rfl) ?_
 refine GoO.pure (ps_assign rfl rfl) ?_
 refine GoO.nil ?_
 refine GoK.code ?_
 obtain rfl := Option.some.inj H
 exact GoC.retL (ds := [.v (.bool (decide (((r4.length : Nat) : Int) = ((rows.length : Nat) : Int))))]) Try.results12 (ResL.cons (ResD.tmp rfl) (ResL.nil)) (Take.nil _) ⟨rfl, rfl⟩

end Go.Proofs.Ytlelfifbmckhgaa
