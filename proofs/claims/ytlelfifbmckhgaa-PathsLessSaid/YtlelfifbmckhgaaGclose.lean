/- The functions close.Check, close.Best, told as plain functions, and that the code does as they say. -/
import Derived.Test.YtlelfifbmckhgaaTys
import Derived.Test.YtlelfifbmckhgaaDat
import Derived.Test.YtlelfifbmckhgaaGcut
namespace Go.Proofs.Ytlelfifbmckhgaa
open Go Go.Proofs.Ytlelfifbmckhgaa.Sx
set_option linter.unusedVariables false
set_option linter.unusedSimpArgs false
def close_Check_B1 (gain : (List Int)) : Nat → Unit → Option (Ct (Unit) (Int)) := fun k8 _ =>
 if (gain.getD k8 (0 : Int)) < (-1000) then
  some (.ret 1)
 else
  if 1000 < (gain.getD k8 (0 : Int)) then
   some (.ret 1)
  else
   some (.go ())
def close_Check_B2 (gain : (List Int)) (l : (List Arc)) : Nat → Unit → Option (Ct (Unit) (Int)) := fun k16 _ =>
 if ((l.getD k16 El.d).f) < 0 then
  some (.ret 4)
 else
  if ((gain.length : Nat) : Int) ≤ ((l.getD k16 El.d).f) then
   some (.ret 4)
  else
   if ((l.getD k16 El.d).t) < 0 then
    some (.ret 4)
   else
    if ((gain.length : Nat) : Int) ≤ ((l.getD k16 El.d).t) then
     some (.ret 4)
    else
     some (.go ())
def close_Check_F (gain : (List Int)) (l : (List Arc)) : Option (Int) :=
 if 10 < ((gain.length : Nat) : Int) then
  some 2
 else
  if 30 < ((l.length : Nat) : Int) then
   some 2
  else
   (forC (close_Check_B1 gain) gain.length 0 ()).bind fun q => match q with
   | .go _ =>
    (forC (close_Check_B2 gain l) l.length 0 ()).bind fun q => match q with
    | .go _ =>
     some 0
    | .ret x => some x
   | .ret x => some x
def close_Check_P (out : Int) (d : D) (H : List HL) : Prop := d = .v (.int .i64 out) ∧ H = []
theorem close_Check_I (out : Int) : IndepP (close_Check_P out) := IndepP.of (by rintro _ _ ⟨rfl, rfl⟩; exact ⟨inferInstance, inferInstance⟩)
set_option maxRecDepth 100000 in
set_option maxHeartbeats 4000000 in
theorem close_Check_spec (gain : (List Int)) (l : (List Arc)) {out : Int} (H : close_Check_F gain l = some out) : Does Try.prog 49 [slD gain, slD l] [] (close_Check_P out) := by
 unfold close_Check_F at H
 refine Does.intro Try.func49 rfl Try.ntmps49 rfl fun w0 I0 => ?_
 refine GoC.seq ?_
 refine GoC.region ?_
 refine GoO.pure (ps_assign rfl rfl) ?_
 refine GoO.nil ?_
 refine GoK.code ?_
 refine GoC.seq ?_
 refine GoC.seq ?_
 refine GoC.region ?_
 refine GoO.pure (ps_move rfl rfl) ?_
 refine GoO.pure (ps_len rfl (by constructor) rfl) ?_
 refine GoO.lenLe (n := gain.length) (x := .tmp 9) rfl (by constructor) sl_lenLe (fun ml1 => ?_)
 refine GoO.pure (ps_gtr rfl rfl rfl) ?_
 refine GoO.pure (ps_move rfl rfl) ?_
 refine GoO.guardE rfl rfl rfl rfl (fun h2 => ?_) (fun h2 => ?_)
 replace H := ite_f h2 H
 refine GoO.pure (ps_move rfl rfl) ?_
 refine GoO.guardT rfl rfl rfl ?_
 refine GoO.pure (ps_len rfl (by constructor) rfl) ?_
 refine GoO.lenLe (n := l.length) (x := .tmp 13) rfl (by constructor) sl_lenLe (fun ml3 => ?_)
 refine GoO.guardT rfl rfl rfl ?_
 refine GoO.pure (ps_gtr rfl rfl rfl) ?_
 refine GoO.pure (ps_pickF rfl rfl rfl) ?_
 refine GoO.nil ?_
 refine GoK.code ?_
 refine GoC.condD rfl (fun h4 => ?_) (fun h4 => ?_)
 replace H := ite_t h4 H
 refine GoC.seq ?_
 refine GoC.region ?_
 refine GoO.pure (ps_assign rfl rfl) ?_
 refine GoO.nil ?_
 refine GoK.code ?_
 obtain rfl := Option.some.inj H
 exact GoC.retL (ds := [.v (.int .i64 2)]) Try.results49 (ResL.cons (ResD.tmp rfl) (ResL.nil)) (Take.nil _) ⟨rfl, rfl⟩
 replace H := ite_f h4 H
 refine GoC.skip ?_
 refine GoK.code ?_
 refine GoC.seq ?_
 refine GoC.seq ?_
 refine GoC.region ?_
 refine GoO.pure (ps_move rfl rfl) ?_
 refine GoO.pure (ps_len rfl (by constructor) rfl) ?_
 refine GoO.pure (ps_move rfl rfl) ?_
 refine GoO.nil ?_
 refine GoK.code ?_
 have hb := bind_l H; clear H
 obtain ⟨q7, hl12, HK5⟩ := hb
 refine GoC.blockJ [(0, slD gain), (1, slD l)] [] (fun v h => q7 = .go () ∧ v = [] ∧ h = []) ?_ ?_
 refine GoC.loopJ [(0, _), (1, _), (17, _), (18, _)] [] (fun m v h => ∃ (k8 : Nat), (k8 + m = gain.length ∧ forC (close_Check_B1 gain) m k8 () = some q7) ∧ v = [(19, .v (.int .i64 ((k8 : Nat) : Int)))] ∧ h = []) gain.length ⟨_, ⟨by omega, hl12⟩, rfl, rfl⟩ (EnvD.eq rfl (EnvD.eq rfl (EnvD.eq rfl (EnvD.eq rfl (EnvD.eq rfl (EnvD.nil)))))) (TkD.nil _) ?_
 rintro m9 v h ⟨k8, ⟨hkk8, hF6⟩, rfl, rfl⟩
 refine GoC.seq ?_
 refine GoC.region ?_
 refine GoO.pure (ps_lss rfl rfl rfl) ?_
 refine GoO.nil ?_
 refine GoK.code ?_
 refine GoC.seq ?_
 refine GoC.condD rfl (fun (hk8 : (k8 : Int) < ((gain.length : Nat) : Int)) => ?_) (fun (hk8 : ¬ (k8 : Int) < ((gain.length : Nat) : Int)) => ?_)
 obtain ⟨m9', rfl⟩ : ∃ x, m9 = x + 1 := ⟨m9 - 1, by omega⟩
 have hb := bind_l hF6; clear hF6
 obtain ⟨qrm9, H, hF6⟩ := hb
 have hnk8 : k8 < gain.length := by omega
 have hIk8 : InI ((k8 : Int) + 1) := inI_len hk8 ml1
 refine GoC.skip ?_
 refine GoK.code ?_
 refine GoC.seq ?_
 refine GoC.block ?_
 refine GoC.seq ?_
 refine GoC.region ?_
 refine GoO.pure (ps_indexAddrRN rfl rfl hnk8 rfl) ?_
 refine GoO.pure (ps_loadR rfl hnk8 rfl rfl) ?_
 refine GoO.pure (ps_assign rfl rfl) ?_
 refine GoO.nil ?_
 refine GoK.code ?_
 refine GoC.seq ?_
 refine GoC.region ?_
 refine GoO.pure (ps_move rfl rfl) ?_
 refine GoO.pure (ps_lss rfl rfl rfl) ?_
 refine GoO.pure (ps_move rfl rfl) ?_
 refine GoO.guardE rfl rfl rfl rfl (fun h10 => ?_) (fun h10 => ?_)
 replace H := ite_f h10 H
 refine GoO.pure (ps_move rfl rfl) ?_
 refine GoO.guardT rfl rfl rfl ?_
 refine GoO.pure (ps_gtr rfl rfl rfl) ?_
 refine GoO.pure (ps_pickF rfl rfl rfl) ?_
 refine GoO.nil ?_
 refine GoK.code ?_
 refine GoC.condD rfl (fun h11 => ?_) (fun h11 => ?_)
 replace H := ite_t h11 H
 refine GoC.seq ?_
 refine GoC.region ?_
 refine GoO.pure (ps_assign rfl rfl) ?_
 refine GoO.nil ?_
 refine GoK.code ?_
 obtain rfl := Option.some.inj H
 obtain rfl := Option.some.inj hF6
 obtain rfl := Option.some.inj HK5
 exact GoC.retL (ds := [.v (.int .i64 1)]) Try.results49 (ResL.cons (ResD.tmp rfl) (ResL.nil)) (Take.nil _) ⟨rfl, rfl⟩
 replace H := ite_f h11 H
 refine GoC.skip ?_
 refine GoK.blk ?_
 refine GoK.code ?_
 refine GoC.region ?_
 refine GoO.pure (ps_add rfl rfl rfl hIk8) ?_
 refine GoO.pure (ps_move rfl rfl) ?_
 refine GoO.nil ?_
 obtain rfl := Option.some.inj H
 exact GoK.againJ m9' (by omega) ⟨_, ⟨by omega, hF6⟩, rfl, rfl⟩ (EnvD.eq rfl (EnvD.eq rfl (EnvD.eq rfl (EnvD.eq rfl (EnvD.eq rfl (EnvD.nil)))))) (TkD.nil _)
 replace H := ite_t h10 H
 refine GoO.guardF rfl rfl rfl rfl ?_
 refine GoO.pure (ps_pickT rfl rfl rfl) ?_
 refine GoO.nil ?_
 refine GoK.code ?_
 refine GoC.condT rfl ?_
 refine GoC.seq ?_
 refine GoC.region ?_
 refine GoO.pure (ps_assign rfl rfl) ?_
 refine GoO.nil ?_
 refine GoK.code ?_
 obtain rfl := Option.some.inj H
 obtain rfl := Option.some.inj hF6
 obtain rfl := Option.some.inj HK5
 exact GoC.retL (ds := [.v (.int .i64 1)]) Try.results49 (ResL.cons (ResD.tmp rfl) (ResL.nil)) (Take.nil _) ⟨rfl, rfl⟩
 obtain rfl : m9 = 0 := by omega
 refine GoC.exit rfl ?_
 cases hF6
 exact GoK.meet ⟨rfl, rfl, rfl⟩ (EnvD.eq rfl (EnvD.eq rfl (EnvD.nil))) (TkD.nil _)
 rintro v h ⟨rfl, rfl, rfl⟩
 have H := HK5; clear HK5
 refine GoK.code ?_
 refine GoC.seq ?_
 refine GoC.seq ?_
 refine GoC.region ?_
 refine GoO.pure (ps_move rfl rfl) ?_
 refine GoO.pure (ps_len rfl (by constructor) rfl) ?_
 refine GoO.pure (ps_move rfl rfl) ?_
 refine GoO.nil ?_
 refine GoK.code ?_
 have hb := bind_l H; clear H
 obtain ⟨q15, hl23, HK13⟩ := hb
 refine GoC.blockJ [] [] (fun v h => q15 = .go () ∧ v = [] ∧ h = []) ?_ ?_
 refine GoC.loopJ [(0, _), (30, _), (31, _)] [] (fun m v h => ∃ (k16 : Nat), (k16 + m = l.length ∧ forC (close_Check_B2 gain l) m k16 () = some q15) ∧ v = [(32, .v (.int .i64 ((k16 : Nat) : Int)))] ∧ h = []) l.length ⟨_, ⟨by omega, hl23⟩, rfl, rfl⟩ (EnvD.eq rfl (EnvD.eq rfl (EnvD.eq rfl (EnvD.eq rfl (EnvD.nil))))) (TkD.nil _) ?_
 rintro m17 v h ⟨k16, ⟨hkk16, hF14⟩, rfl, rfl⟩
 refine GoC.seq ?_
 refine GoC.region ?_
 refine GoO.pure (ps_lss rfl rfl rfl) ?_
 refine GoO.nil ?_
 refine GoK.code ?_
 refine GoC.seq ?_
 refine GoC.condD rfl (fun (hk16 : (k16 : Int) < ((l.length : Nat) : Int)) => ?_) (fun (hk16 : ¬ (k16 : Int) < ((l.length : Nat) : Int)) => ?_)
 obtain ⟨m17', rfl⟩ : ∃ x, m17 = x + 1 := ⟨m17 - 1, by omega⟩
 have hb := bind_l hF14; clear hF14
 obtain ⟨qrm17, H, hF14⟩ := hb
 have hnk16 : k16 < l.length := by omega
 have hIk16 : InI ((k16 : Int) + 1) := inI_len hk16 ml3
 refine GoC.skip ?_
 refine GoK.code ?_
 refine GoC.seq ?_
 refine GoC.block ?_
 refine GoC.seq ?_
 refine GoC.region ?_
 refine GoO.pure (ps_indexAddrRN rfl rfl hnk16 rfl) ?_
 refine GoO.pure (ps_loadAgR rfl hnk16 rfl rfl) ?_
 refine GoO.effB (ef_alloc rfl) (fun β18 => ?_)
 refine GoO.eff1 (ef_storeAg rfl rfl At.p0 upd_whole Nat.zero_lt_one rfl) ?_
 refine GoO.nil ?_
 refine GoK.code ?_
 refine GoC.seq ?_
 refine GoC.region ?_
 refine GoO.pure (ps_fieldAddr rfl rfl) ?_
 refine GoO.pure (ps_load rfl At.p0 At.p0 Nat.zero_lt_one rfl rfl) ?_
 refine GoO.pure (ps_lss rfl rfl rfl) ?_
 refine GoO.pure (ps_move rfl rfl) ?_
 refine GoO.guardE rfl rfl rfl rfl (fun h19 => ?_) (fun h19 => ?_)
 replace H := ite_f h19 H
 refine GoO.pure (ps_fieldAddr rfl rfl) ?_
 refine GoO.guardT rfl rfl rfl ?_
 refine GoO.pure (ps_load rfl At.p0 At.p0 Nat.zero_lt_one rfl rfl) ?_
 refine GoO.guardT rfl rfl rfl ?_
 refine GoO.pure (ps_move rfl rfl) ?_
 refine GoO.guardT rfl rfl rfl ?_
 refine GoO.pure (ps_len rfl (by constructor) rfl) ?_
 refine GoO.guardT rfl rfl rfl ?_
 refine GoO.pure (ps_geq rfl rfl rfl) ?_
 refine GoO.pure (ps_pickF rfl rfl rfl) ?_
 refine GoO.pure (ps_move rfl rfl) ?_
 refine GoO.guardE rfl rfl rfl rfl (fun h20 => ?_) (fun h20 => ?_)
 replace H := ite_f h20 H
 refine GoO.pure (ps_fieldAddr rfl rfl) ?_
 refine GoO.guardT rfl rfl rfl ?_
 refine GoO.pure (ps_load rfl At.p0 At.p0 Nat.zero_lt_one rfl rfl) ?_
 refine GoO.guardT rfl rfl rfl ?_
 refine GoO.pure (ps_lss rfl rfl rfl) ?_
 refine GoO.pure (ps_pickF rfl rfl rfl) ?_
 refine GoO.pure (ps_move rfl rfl) ?_
 refine GoO.guardE rfl rfl rfl rfl (fun h21 => ?_) (fun h21 => ?_)
 replace H := ite_f h21 H
 refine GoO.pure (ps_fieldAddr rfl rfl) ?_
 refine GoO.guardT rfl rfl rfl ?_
 refine GoO.pure (ps_load rfl At.p0 At.p0 Nat.zero_lt_one rfl rfl) ?_
 refine GoO.guardT rfl rfl rfl ?_
 refine GoO.pure (ps_move rfl rfl) ?_
 refine GoO.guardT rfl rfl rfl ?_
 refine GoO.pure (ps_len rfl (by constructor) rfl) ?_
 refine GoO.guardT rfl rfl rfl ?_
 refine GoO.pure (ps_geq rfl rfl rfl) ?_
 refine GoO.pure (ps_pickF rfl rfl rfl) ?_
 refine GoO.nil ?_
 refine GoK.code ?_
 refine GoC.condD rfl (fun h22 => ?_) (fun h22 => ?_)
 replace H := ite_t h22 H
 refine GoC.seq ?_
 refine GoC.region ?_
 refine GoO.pure (ps_assign rfl rfl) ?_
 refine GoO.nil ?_
 refine GoK.code ?_
 obtain rfl := Option.some.inj H
 obtain rfl := Option.some.inj hF14
 obtain rfl := Option.some.inj HK13
 exact GoC.retL (ds := [.v (.int .i64 4)]) Try.results49 (ResL.cons (ResD.tmp rfl) (ResL.nil)) (Take.nil _) ⟨rfl, rfl⟩
 replace H := ite_f h22 H
 refine GoC.skip ?_
 refine GoK.blk ?_
 refine GoK.code ?_
 refine GoC.region ?_
 refine GoO.pure (ps_add rfl rfl rfl hIk16) ?_
 refine GoO.pure (ps_move rfl rfl) ?_
 refine GoO.nil ?_
 obtain rfl := Option.some.inj H
 exact GoK.againJ m17' (by omega) ⟨_, ⟨by omega, hF14⟩, rfl, rfl⟩ (EnvD.eq rfl (EnvD.eq rfl (EnvD.eq rfl (EnvD.eq rfl (EnvD.nil))))) (TkD.nil _)
 replace H := ite_t h21 H
 refine GoO.guardF rfl rfl rfl rfl ?_
 refine GoO.guardF rfl rfl rfl rfl ?_
 refine GoO.guardF rfl rfl rfl rfl ?_
 refine GoO.guardF rfl rfl rfl rfl ?_
 refine GoO.pure (ps_pickT rfl rfl rfl) ?_
 refine GoO.nil ?_
 refine GoK.code ?_
 refine GoC.condT rfl ?_
 refine GoC.seq ?_
 refine GoC.region ?_
 refine GoO.pure (ps_assign rfl rfl) ?_
 refine GoO.nil ?_
 refine GoK.code ?_
 obtain rfl := Option.some.inj H
 obtain rfl := Option.some.inj hF14
 obtain rfl := Option.some.inj HK13
 exact GoC.retL (ds := [.v (.int .i64 4)]) Try.results49 (ResL.cons (ResD.tmp rfl) (ResL.nil)) (Take.nil _) ⟨rfl, rfl⟩
 replace H := ite_t h20 H
 refine GoO.guardF rfl rfl rfl rfl ?_
 refine GoO.guardF rfl rfl rfl rfl ?_
 refine GoO.pure (ps_pickT rfl rfl rfl) ?_
 refine GoO.pure (ps_move rfl rfl) ?_
 refine GoO.guardF rfl rfl rfl rfl ?_
 refine GoO.guardF rfl rfl rfl rfl ?_
 refine GoO.guardF rfl rfl rfl rfl ?_
 refine GoO.guardF rfl rfl rfl rfl ?_
 refine GoO.guardF rfl rfl rfl rfl ?_
 refine GoO.pure (ps_pickT rfl rfl rfl) ?_
 refine GoO.nil ?_
 refine GoK.code ?_
 refine GoC.condT rfl ?_
 refine GoC.seq ?_
 refine GoC.region ?_
 refine GoO.pure (ps_assign rfl rfl) ?_
 refine GoO.nil ?_
 refine GoK.code ?_
 obtain rfl := Option.some.inj H
 obtain rfl := Option.some.inj hF14
 obtain rfl := Option.some.inj HK13
 exact GoC.retL (ds := [.v (.int .i64 4)]) Try.results49 (ResL.cons (ResD.tmp rfl) (ResL.nil)) (Take.nil _) ⟨rfl, rfl⟩
 replace H := ite_t h19 H
 refine GoO.guardF rfl rfl rfl rfl ?_
 refine GoO.guardF rfl rfl rfl rfl ?_
 refine GoO.guardF rfl rfl rfl rfl ?_
 refine GoO.guardF rfl rfl rfl rfl ?_
 refine GoO.pure (ps_pickT rfl rfl rfl) ?_
 refine GoO.pure (ps_move rfl rfl) ?_
 refine GoO.guardF rfl rfl rfl rfl ?_
 refine GoO.guardF rfl rfl rfl rfl ?_
 refine GoO.guardF rfl rfl rfl rfl ?_
 refine GoO.pure (ps_pickT rfl rfl rfl) ?_
 refine GoO.pure (ps_move rfl rfl) ?_
 refine GoO.guardF rfl rfl rfl rfl ?_
 refine GoO.guardF rfl rfl rfl rfl ?_
 refine GoO.guardF rfl rfl rfl rfl ?_
 refine GoO.guardF rfl rfl rfl rfl ?_
 refine GoO.guardF rfl rfl rfl rfl ?_
 refine GoO.pure (ps_pickT rfl rfl rfl) ?_
 refine GoO.nil ?_
 refine GoK.code ?_
 refine GoC.condT rfl ?_
 refine GoC.seq ?_
 refine GoC.region ?_
 refine GoO.pure (ps_assign rfl rfl) ?_
 refine GoO.nil ?_
 refine GoK.code ?_
 obtain rfl := Option.some.inj H
 obtain rfl := Option.some.inj hF14
 obtain rfl := Option.some.inj HK13
 exact GoC.retL (ds := [.v (.int .i64 4)]) Try.results49 (ResL.cons (ResD.tmp rfl) (ResL.nil)) (Take.nil _) ⟨rfl, rfl⟩
 obtain rfl : m17 = 0 := by omega
 refine GoC.exit rfl ?_
 cases hF14
 exact GoK.meet ⟨rfl, rfl, rfl⟩ (EnvD.nil) (TkD.nil _)
 rintro v h ⟨rfl, rfl, rfl⟩
 have H := HK13; clear HK13
 refine GoK.code ?_
 refine GoC.seq ?_
 refine GoC.region ?_
 refine GoO.pure (ps_assign rfl rfl) ?_
 refine GoO.nil ?_
 refine GoK.code ?_
 obtain rfl := Option.some.inj H
 exact GoC.retL (ds := [.v (.int .i64 0)]) Try.results49 (ResL.cons (ResD.tmp rfl) (ResL.nil)) (Take.nil _) ⟨rfl, rfl⟩
 replace H := ite_t h2 H
 refine GoO.guardF rfl rfl rfl rfl ?_
 refine GoO.guardF rfl rfl rfl rfl ?_
 refine GoO.pure (ps_pickT rfl rfl rfl) ?_
 refine GoO.nil ?_
 refine GoK.code ?_
 refine GoC.condT rfl ?_
 refine GoC.seq ?_
 refine GoC.region ?_
 refine GoO.pure (ps_assign rfl rfl) ?_
 refine GoO.nil ?_
 refine GoK.code ?_
 obtain rfl := Option.some.inj H
 exact GoC.retL (ds := [.v (.int .i64 2)]) Try.results49 (ResL.cons (ResD.tmp rfl) (ResL.nil)) (Take.nil _) ⟨rfl, rfl⟩

def close_Best_B1 (gain : (List Int)) : Nat → ((List Arc) × Int) → Option ((List Arc) × Int) := fun k16 (l9, x10) =>
 ((
  if 0 < (gain.getD k16 (0 : Int)) then
   ck (InI (x10 + (gain.getD k16 (0 : Int)))) <|
   ck (l9.length + 1 ≤ 5864062014805) <|
   some ((l9 ++ ([(⟨((gain.length : Nat) : Int), ((k16 : Nat) : Int), (gain.getD k16 (0 : Int))⟩ : Arc)] : List Arc)), (x10 + (gain.getD k16 (0 : Int))))
  else
   some (l9, x10)) : Option ((List Arc) × Int)).bind fun (l19, x20) =>
 if (gain.getD k16 (0 : Int)) < 0 then
  ck (InI (-(gain.getD k16 (0 : Int)))) <|
  ck (l19.length + 1 ≤ 5864062014805) <|
  some ((l19 ++ ([(⟨((k16 : Nat) : Int), (((gain.length + 1) : Nat) : Int), (-(gain.getD k16 (0 : Int)))⟩ : Arc)] : List Arc)), x20)
 else
  some (l19, x20)
def close_Best_B2 (l : (List Arc)) : Nat → (List Arc) → Option ((List Arc)) := fun k41 l36 =>
 ck (l36.length + 1 ≤ 5864062014805) <|
 some (l36 ++ ([(⟨(l.getD k41 El.d).f, (l.getD k41 El.d).t, 10000⟩ : Arc)] : List Arc))
def close_Best_F (gain : (List Int)) (l : (List Arc)) : Option (Int × Int × Int) :=
 (close_Check_F gain l).bind fun r1 =>
 if r1 ≠ 0 then
  some (0, 0, r1)
 else
  ck (InI (((gain.length : Nat) : Int) + 2)) <|
  ck (InI (((gain.length : Nat) : Int) + 1)) <|
  (forN (close_Best_B1 gain) gain.length 0 ([], 0)).bind fun (l14, x15) =>
  (forN (close_Best_B2 l) l.length 0 l14).bind fun l40 =>
  (cut_Least_F (⟨(((gain.length + 2) : Nat) : Int), ((gain.length : Nat) : Int), (((gain.length + 1) : Nat) : Int), l40⟩ : Net)).bind fun (r48, r49, r50) =>
  ck (InI (x15 - r49)) <|
  some ((bitsOf .and .u16 r48 (IntKind.u16.wrap ((IntKind.u16.wrap (1 * 2 ^ min gain.length 16)) - 1))), (x15 - r49), 0)
def close_Best_P (out : Int × Int × Int) (d : D) (H : List HL) : Prop := d = .tp 3 (nth [.v (.int .u16 out.1), .v (.int .i64 out.2.1), .v (.int .i64 out.2.2)]) ∧ H = []
theorem close_Best_I (out : Int × Int × Int) : IndepP (close_Best_P out) := IndepP.of (by rintro _ _ ⟨rfl, rfl⟩; exact ⟨inferInstance, inferInstance⟩)
set_option maxRecDepth 100000 in
set_option maxHeartbeats 4000000 in
theorem close_Best_spec (gain : (List Int)) (l : (List Arc)) {out : Int × Int × Int} (H : close_Best_F gain l = some out) : Does Try.prog 16 [slD gain, slD l] [] (close_Best_P out) := by
 unfold close_Best_F at H
 refine Does.intro Try.func16 rfl Try.ntmps16 rfl fun w0 I0 => ?_
 refine GoC.seq ?_
 refine GoC.region ?_
 refine GoO.pure (ps_assign rfl rfl) ?_
 refine GoO.pure (ps_assign rfl rfl) ?_
 refine GoO.pure (ps_assign rfl rfl) ?_
 refine GoO.nil ?_
 refine GoK.code ?_
 refine GoC.seq ?_
 refine GoC.seq ?_
 refine GoC.region ?_
 refine GoO.pure (ps_move rfl rfl) ?_
 refine GoO.pure (ps_move rfl rfl) ?_
 have hb := bind_l H; clear H
 obtain ⟨r1, e2, H⟩ := hb
 refine GoO.effC (ef_call rfl (Take.nil _) (Take.nil _) (close_Check_spec gain l e2) (LendL.cons (Lend.refl _ _) (LendL.cons (Lend.refl _ _) (LendL.nil))) rfl (close_Check_I (r1))) (fun rr HH hp => ?_)
 obtain ⟨rfl, rfl⟩ := hp
 refine GoO.pure (ps_assign rfl rfl) ?_
 refine GoO.nil ?_
 refine GoK.code ?_
 refine GoC.seq ?_
 refine GoC.region ?_
 refine GoO.pure (ps_move rfl rfl) ?_
 refine GoO.pure (ps_neq rfl rfl rfl) ?_
 refine GoO.nil ?_
 refine GoK.code ?_
 refine GoC.condD rfl (fun h3 => ?_) (fun h3 => ?_)
 replace H := ite_t h3 H
 refine GoC.seq ?_
 refine GoC.region ?_
 refine GoO.pure (ps_move rfl rfl) ?_
 refine GoO.pure (ps_assign rfl rfl) ?_
 refine GoO.pure (ps_assign rfl rfl) ?_
 refine GoO.pure (ps_assign rfl rfl) ?_
 refine GoO.nil ?_
 refine GoK.code ?_
 obtain rfl := Option.some.inj H
 exact GoC.retL (ds := [.v (.int .u16 0), .v (.int .i64 0), .v (.int .i64 r1)]) Try.results16 (ResL.cons (ResD.tmp rfl) (ResL.cons (ResD.tmp rfl) (ResL.cons (ResD.tmp rfl) (ResL.nil)))) (Take.nil _) ⟨rfl, rfl⟩
 replace H := ite_f h3 H
 refine GoC.skip ?_
 refine GoK.code ?_
 refine GoC.seq ?_
 refine GoC.region ?_
 refine GoO.pure (ps_move rfl rfl) ?_
 refine GoO.pure (ps_len rfl (by constructor) rfl) ?_
 refine GoO.lenLe (n := gain.length) (x := .tmp 24) rfl (by constructor) sl_lenLe (fun ml4 => ?_)
 refine GoO.pure (ps_assign rfl rfl) ?_
 refine GoO.nil ?_
 refine GoK.code ?_
 refine GoC.seq ?_
 refine GoC.region ?_
 refine GoO.pure (ps_move rfl rfl) ?_
 have c5 := ck_l H; replace H := ck_r H
 refine GoO.pure (ps_add rfl rfl rfl c5) ?_
 refine GoO.pure (ps_move rfl rfl) ?_
 refine GoO.pure (ps_move rfl rfl) ?_
 have c6 := ck_l H; replace H := ck_r H
 refine GoO.pure (ps_add rfl rfl rfl c6) ?_
 refine GoO.pure (ps_build (Parts.cons _ _ _ _ _ _ _ _ FdP.of (Part.one _ rfl rfl) rfl rfl (Parts.cons _ _ _ _ _ _ _ _ FdP.of (Part.one _ rfl rfl) rfl rfl (Parts.cons _ _ _ _ _ _ _ _ FdP.of (Part.one _ rfl rfl) rfl rfl (Parts.nil _)))) rfl) ?_
 refine GoO.effB (ef_alloc rfl) (fun β7 => ?_)
 refine GoO.eff1 (ef_storeAg rfl rfl At.p0 upd_whole Nat.zero_lt_one rfl) ?_
 refine GoO.nil ?_
 refine GoK.code ?_
 refine GoC.seq ?_
 refine GoC.region ?_
 refine GoO.pure (ps_assign rfl rfl) ?_
 refine GoO.nil ?_
 refine GoK.code ?_
 refine GoC.seq ?_
 refine GoC.seq ?_
 refine GoC.region ?_
 refine GoO.pure (ps_move rfl rfl) ?_
 refine GoO.pure (ps_len rfl (by constructor) rfl) ?_
 refine GoO.pure (ps_move rfl rfl) ?_
 refine GoO.nil ?_
 refine GoK.code ?_
 have hb := bind_l H; clear H
 obtain ⟨⟨l14, x15⟩, hl33, HK11⟩ := hb
 refine GoC.blockJ [(1, slD l), (8, .v (.int .i64 ((gain.length : Nat) : Int)))] [] (fun v h => ∃ (β8 : BK), v = [(9, .ptr β7 4 0 0), (10, .v (.int .i64 x15))] ∧ h = [.one β8 31 3 (row l14), .one β7 36 4 (st1 (nth [.v (.int .i64 (((gain.length + 2) : Nat) : Int)), .v (.int .i64 ((gain.length : Nat) : Int)), .v (.int .i64 (((gain.length + 1) : Nat) : Int)), .own β8 3 0 l14.length]))]) ?_ ?_
 refine GoC.loopJ [(1, _), (8, _), (32, _), (33, _)] [] (fun m v h => ∃ (k16 : Nat) (l9 : (List Arc)) (x10 : Int) (β8 : BK), (k16 + m = gain.length ∧ forN (close_Best_B1 gain) m k16 (l9, x10) = some (l14, x15)) ∧ v = [(34, .v (.int .i64 ((k16 : Nat) : Int))), (9, .ptr β7 4 0 0), (10, .v (.int .i64 x10))] ∧ h = [.one β8 31 3 (row l9), .one β7 36 4 (st1 (nth [.v (.int .i64 (((gain.length + 2) : Nat) : Int)), .v (.int .i64 ((gain.length : Nat) : Int)), .v (.int .i64 (((gain.length + 1) : Nat) : Int)), .own β8 3 0 l9.length]))]) gain.length ⟨_, _, _, ⟨0, 0, 0⟩, ⟨by omega, hl33⟩, rfl, rfl⟩ (EnvD.eq rfl (EnvD.eq rfl (EnvD.eq rfl (EnvD.eq rfl (EnvD.eq rfl (EnvD.eq rfl (EnvD.eq rfl (EnvD.nil)))))))) (TkD.no _ _ _ _ _ rfl (TkD.cons _ _ _ _ _ Rem.p0 (HLe.st ⟨⟨⟨⟨trivial, DLe.refl _⟩, DLe.refl _⟩, DLe.refl _⟩, DLe.nilOwn⟩) (TkD.nil _))) ?_
 rintro m17 v h ⟨k16, l9, x10, β8, ⟨hkk16, hF12⟩, rfl, rfl⟩
 refine GoC.seq ?_
 refine GoC.region ?_
 refine GoO.pure (ps_lss rfl rfl rfl) ?_
 refine GoO.nil ?_
 refine GoK.code ?_
 refine GoC.seq ?_
 refine GoC.condD rfl (fun (hk16 : (k16 : Int) < ((gain.length : Nat) : Int)) => ?_) (fun (hk16 : ¬ (k16 : Int) < ((gain.length : Nat) : Int)) => ?_)
 obtain ⟨m17', rfl⟩ : ∃ x, m17 = x + 1 := ⟨m17 - 1, by omega⟩
 have hb := bind_l hF12; clear hF12
 obtain ⟨qrm17, H, hF12⟩ := hb
 have hnk16 : k16 < gain.length := by omega
 have hIk16 : InI ((k16 : Int) + 1) := inI_len hk16 ml4
 refine GoC.skip ?_
 refine GoK.code ?_
 refine GoC.seq ?_
 refine GoC.block ?_
 refine GoC.seq ?_
 refine GoC.region ?_
 refine GoO.pure (ps_move rfl rfl) ?_
 refine GoO.pure (ps_indexAddrRN rfl rfl hnk16 rfl) ?_
 refine GoO.pure (ps_loadR rfl hnk16 rfl rfl) ?_
 refine GoO.pure (ps_assign rfl rfl) ?_
 refine GoO.pure (ps_assign rfl rfl) ?_
 refine GoO.nil ?_
 refine GoK.code ?_
 have hb := bind_l H; clear H
 obtain ⟨⟨l19, x20⟩, H, HK21⟩ := hb
 refine GoC.seqJ [(1, slD l), (8, .v (.int .i64 ((gain.length : Nat) : Int))), (11, .v (.int .i64 ((k16 : Nat) : Int))), (12, .v (.int .i64 (gain.getD k16 (0 : Int)))), (32, slD gain), (33, .v (.int .i64 ((gain.length : Nat) : Int))), (34, .v (.int .i64 ((k16 : Nat) : Int)))] [] (fun v h => ∃ (β18 : BK), v = [(9, .ptr β7 4 0 0), (10, .v (.int .i64 x20))] ∧ h = [.one β18 31 3 (row l19), .one β7 36 4 (st1 (nth [.v (.int .i64 (((gain.length + 2) : Nat) : Int)), .v (.int .i64 ((gain.length : Nat) : Int)), .v (.int .i64 (((gain.length + 1) : Nat) : Int)), .own β18 3 0 l19.length]))]) ?_ ?_
 refine GoC.seq ?_
 refine GoC.region ?_
 refine GoO.pure (ps_move rfl rfl) ?_
 refine GoO.pure (ps_gtr rfl rfl rfl) ?_
 refine GoO.nil ?_
 refine GoK.code ?_
 refine GoC.condD rfl (fun h23 => ?_) (fun h23 => ?_)
 replace H := ite_t h23 H
 refine GoC.seq ?_
 refine GoC.region ?_
 refine GoO.pure (ps_move rfl rfl) ?_
 refine GoO.pure (ps_move rfl rfl) ?_
 have c24 := ck_l H; replace H := ck_r H
 refine GoO.pure (ps_add rfl rfl rfl c24) ?_
 refine GoO.pure (ps_assign rfl rfl) ?_
 refine GoO.nil ?_
 refine GoK.code ?_
 refine GoC.region ?_
 refine GoO.pure (ps_fieldAddr rfl rfl) ?_
 refine GoO.pure (ps_load rfl At.p1 At.p1 Nat.zero_lt_one rfl rfl) ?_
 refine GoO.pure (ps_move rfl rfl) ?_
 refine GoO.pure (ps_move rfl rfl) ?_
 refine GoO.pure (ps_move rfl rfl) ?_
 refine GoO.pure (ps_build (Parts.cons _ _ _ _ _ _ _ _ FdP.of (Part.one _ rfl rfl) rfl rfl (Parts.cons _ _ _ _ _ _ _ _ FdP.of (Part.one _ rfl rfl) rfl rfl (Parts.cons _ _ _ _ _ _ _ _ FdP.of (Part.one _ rfl rfl) rfl rfl (Parts.nil _)))) rfl) ?_
 refine GoO.effB (ef_buildSlice (row ([(⟨((gain.length : Nat) : Int), ((k16 : Nat) : Int), (gain.getD k16 (0 : Int))⟩ : Arc)] : List Arc)) rfl (Parts.cons _ _ _ _ _ _ _ _ ⟨rfl, rfl⟩ (Part.ag _ _ rfl) rfl rfl (Parts.nil _)) rfl rfl rfl rfl) (fun β25 => ?_)
 have c27 := ck_l H; replace H := ck_r H
 refine GoO.effB (ef_append rfl rfl Rem.p1 (Src.own At.p0 (by first | omega | (simp only [subl_length, cpl_length, List.length_set, List.length_append, List.length_cons, List.length_nil, List.length_replicate, row_len]; omega) | (simp only [subl_length, cpl_length, List.length_set, List.length_append, List.length_cons, List.length_nil, List.length_replicate, row_len]; done))) (cat_row (α := Arc) (by first | rfl | omega | (simp only [subl_length, cpl_length, List.length_set, List.length_append, List.length_cons, List.length_nil, List.length_replicate, row_len] <;> first | rfl | omega)) (by first | rfl | omega | (simp only [subl_length, cpl_length, List.length_set, List.length_append, List.length_cons, List.length_nil, List.length_replicate, row_len] <;> first | rfl | omega)) (fun _ _ _ _ => rfl)) (by first | omega | (simp only [subl_length, cpl_length, List.length_set, List.length_append, List.length_cons, List.length_nil, List.length_replicate, row_len]; omega) | (simp only [subl_length, cpl_length, List.length_set, List.length_append, List.length_cons, List.length_nil, List.length_replicate, row_len]; done)) (app_le c27 rfl) rfl rfl rfl) (fun β26 => ?_)
 refine GoO.pure (ps_fieldAddr rfl rfl) ?_
 refine GoO.eff1 (ef_store rfl rfl rfl At.p2 upd_st1 Nat.zero_lt_one rfl) ?_
 refine GoO.nil ?_
 cases H
 exact GoK.meet ⟨β26, rfl, rfl⟩ (EnvD.eq rfl (EnvD.eq rfl (EnvD.eq rfl (EnvD.eq rfl (EnvD.eq rfl (EnvD.eq rfl (EnvD.eq rfl (EnvD.eq rfl (EnvD.eq rfl (EnvD.nil)))))))))) (TkD.cons _ _ _ _ _ Rem.p0 (HLe.refl _) (TkD.cons _ _ _ _ _ Rem.p1 (HLe.st ⟨⟨⟨⟨trivial, DLe.refl _⟩, DLe.refl _⟩, DLe.refl _⟩, DLe.len (by first | rfl | omega | (simp only [row_len, List.length_append, List.length_cons, List.length_nil] <;> first | rfl | omega))⟩) (TkD.nil _)))
 replace H := ite_f h23 H
 refine GoC.skip ?_
 cases H
 exact GoK.meet ⟨β8, rfl, rfl⟩ (EnvD.eq rfl (EnvD.eq rfl (EnvD.eq rfl (EnvD.eq rfl (EnvD.eq rfl (EnvD.eq rfl (EnvD.eq rfl (EnvD.eq rfl (EnvD.eq rfl (EnvD.nil)))))))))) (TkD.cons _ _ _ _ _ Rem.p0 (HLe.refl _) (TkD.cons _ _ _ _ _ Rem.p0 (HLe.st ⟨⟨⟨⟨trivial, DLe.refl _⟩, DLe.refl _⟩, DLe.refl _⟩, DLe.len (by first | rfl | omega | (simp only [row_len] <;> first | rfl | omega))⟩) (TkD.nil _)))
 rintro v h ⟨β18, rfl, rfl⟩
 have H := HK21; clear HK21
 refine GoC.seq ?_
 refine GoC.region ?_
 refine GoO.pure (ps_move rfl rfl) ?_
 refine GoO.pure (ps_lss rfl rfl rfl) ?_
 refine GoO.nil ?_
 refine GoK.code ?_
 refine GoC.condD rfl (fun h28 => ?_) (fun h28 => ?_)
 replace H := ite_t h28 H
 refine GoC.region ?_
 refine GoO.pure (ps_fieldAddr rfl rfl) ?_
 refine GoO.pure (ps_load rfl At.p1 At.p1 Nat.zero_lt_one rfl rfl) ?_
 refine GoO.pure (ps_move rfl rfl) ?_
 refine GoO.pure (ps_move rfl rfl) ?_
 refine GoO.pure (ps_add rfl rfl rfl c6) ?_
 refine GoO.pure (ps_move rfl rfl) ?_
 have c29 := ck_l H; replace H := ck_r H
 refine GoO.pure (ps_neg rfl rfl c29) ?_
 refine GoO.pure (ps_build (Parts.cons _ _ _ _ _ _ _ _ FdP.of (Part.one _ rfl rfl) rfl rfl (Parts.cons _ _ _ _ _ _ _ _ FdP.of (Part.one _ rfl rfl) rfl rfl (Parts.cons _ _ _ _ _ _ _ _ FdP.of (Part.one _ rfl rfl) rfl rfl (Parts.nil _)))) rfl) ?_
 refine GoO.effB (ef_buildSlice (row ([(⟨((k16 : Nat) : Int), (((gain.length + 1) : Nat) : Int), (-(gain.getD k16 (0 : Int)))⟩ : Arc)] : List Arc)) rfl (Parts.cons _ _ _ _ _ _ _ _ ⟨rfl, rfl⟩ (Part.ag _ _ rfl) rfl rfl (Parts.nil _)) rfl rfl rfl rfl) (fun β30 => ?_)
 have c32 := ck_l H; replace H := ck_r H
 refine GoO.effB (ef_append rfl rfl Rem.p1 (Src.own At.p0 (by first | omega | (simp only [subl_length, cpl_length, List.length_set, List.length_append, List.length_cons, List.length_nil, List.length_replicate, row_len]; omega) | (simp only [subl_length, cpl_length, List.length_set, List.length_append, List.length_cons, List.length_nil, List.length_replicate, row_len]; done))) (cat_row (α := Arc) (by first | rfl | omega | (simp only [subl_length, cpl_length, List.length_set, List.length_append, List.length_cons, List.length_nil, List.length_replicate, row_len] <;> first | rfl | omega)) (by first | rfl | omega | (simp only [subl_length, cpl_length, List.length_set, List.length_append, List.length_cons, List.length_nil, List.length_replicate, row_len] <;> first | rfl | omega)) (fun _ _ _ _ => rfl)) (by first | omega | (simp only [subl_length, cpl_length, List.length_set, List.length_append, List.length_cons, List.length_nil, List.length_replicate, row_len]; omega) | (simp only [subl_length, cpl_length, List.length_set, List.length_append, List.length_cons, List.length_nil, List.length_replicate, row_len]; done)) (app_le c32 rfl) rfl rfl rfl) (fun β31 => ?_)
 refine GoO.pure (ps_fieldAddr rfl rfl) ?_
 refine GoO.eff1 (ef_store rfl rfl rfl At.p2 upd_st1 Nat.zero_lt_one rfl) ?_
 refine GoO.nil ?_
 refine GoK.blk ?_
 refine GoK.code ?_
 refine GoC.region ?_
 refine GoO.pure (ps_add rfl rfl rfl hIk16) ?_
 refine GoO.pure (ps_move rfl rfl) ?_
 refine GoO.nil ?_
 obtain rfl := Option.some.inj H
 exact GoK.againJ m17' (by omega) ⟨_, _, _, β31, ⟨by omega, hF12⟩, rfl, rfl⟩ (EnvD.eq rfl (EnvD.eq rfl (EnvD.eq rfl (EnvD.eq rfl (EnvD.eq rfl (EnvD.eq rfl (EnvD.eq rfl (EnvD.nil)))))))) (TkD.cons _ _ _ _ _ Rem.p0 (HLe.refl _) (TkD.cons _ _ _ _ _ Rem.p1 (HLe.st ⟨⟨⟨⟨trivial, DLe.refl _⟩, DLe.refl _⟩, DLe.refl _⟩, DLe.len (by first | rfl | omega | (simp only [row_len, List.length_append, List.length_cons, List.length_nil] <;> first | rfl | omega))⟩) (TkD.nil _)))
 replace H := ite_f h28 H
 refine GoC.skip ?_
 refine GoK.blk ?_
 refine GoK.code ?_
 refine GoC.region ?_
 refine GoO.pure (ps_add rfl rfl rfl hIk16) ?_
 refine GoO.pure (ps_move rfl rfl) ?_
 refine GoO.nil ?_
 obtain rfl := Option.some.inj H
 exact GoK.againJ m17' (by omega) ⟨_, _, _, β18, ⟨by omega, hF12⟩, rfl, rfl⟩ (EnvD.eq rfl (EnvD.eq rfl (EnvD.eq rfl (EnvD.eq rfl (EnvD.eq rfl (EnvD.eq rfl (EnvD.eq rfl (EnvD.nil)))))))) (TkD.cons _ _ _ _ _ Rem.p0 (HLe.refl _) (TkD.cons _ _ _ _ _ Rem.p0 (HLe.st ⟨⟨⟨⟨trivial, DLe.refl _⟩, DLe.refl _⟩, DLe.refl _⟩, DLe.len (by first | rfl | omega | (simp only [row_len] <;> first | rfl | omega))⟩) (TkD.nil _)))
 obtain rfl : m17 = 0 := by omega
 refine GoC.exit rfl ?_
 cases hF12
 exact GoK.meet ⟨β8, rfl, rfl⟩ (EnvD.eq rfl (EnvD.eq rfl (EnvD.eq rfl (EnvD.eq rfl (EnvD.nil))))) (TkD.cons _ _ _ _ _ Rem.p0 (HLe.refl _) (TkD.cons _ _ _ _ _ Rem.p0 (HLe.st ⟨⟨⟨⟨trivial, DLe.refl _⟩, DLe.refl _⟩, DLe.refl _⟩, DLe.len (by first | rfl | omega | (simp only [row_len] <;> first | rfl | omega))⟩) (TkD.nil _)))
 rintro v h ⟨β8, rfl, rfl⟩
 have H := HK11; clear HK11
 refine GoK.code ?_
 refine GoC.seq ?_
 refine GoC.seq ?_
 refine GoC.region ?_
 refine GoO.pure (ps_move rfl rfl) ?_
 refine GoO.pure (ps_len rfl (by constructor) rfl) ?_
 refine GoO.lenLe (n := l.length) (x := .tmp 67) rfl (by constructor) sl_lenLe (fun ml34 => ?_)
 refine GoO.pure (ps_move rfl rfl) ?_
 refine GoO.nil ?_
 refine GoK.code ?_
 have hb := bind_l H; clear H
 obtain ⟨l40, hl47, HK37⟩ := hb
 refine GoC.blockJ [(8, .v (.int .i64 ((gain.length : Nat) : Int))), (10, .v (.int .i64 x15))] [] (fun v h => ∃ (β35 : BK), v = [(9, .ptr β7 4 0 0)] ∧ h = [.one β35 31 3 (row l40), .one β7 36 4 (st1 (nth [.v (.int .i64 (((gain.length + 2) : Nat) : Int)), .v (.int .i64 ((gain.length : Nat) : Int)), .v (.int .i64 (((gain.length + 1) : Nat) : Int)), .own β35 3 0 l40.length]))]) ?_ ?_
 refine GoC.loopJ [(8, _), (10, _), (67, _), (68, _)] [] (fun m v h => ∃ (k41 : Nat) (l36 : (List Arc)) (β35 : BK), (k41 + m = l.length ∧ forN (close_Best_B2 l) m k41 l36 = some l40) ∧ v = [(69, .v (.int .i64 ((k41 : Nat) : Int))), (9, .ptr β7 4 0 0)] ∧ h = [.one β35 31 3 (row l36), .one β7 36 4 (st1 (nth [.v (.int .i64 (((gain.length + 2) : Nat) : Int)), .v (.int .i64 ((gain.length : Nat) : Int)), .v (.int .i64 (((gain.length + 1) : Nat) : Int)), .own β35 3 0 l36.length]))]) l.length ⟨_, _, β8, ⟨by omega, hl47⟩, rfl, rfl⟩ (EnvD.eq rfl (EnvD.eq rfl (EnvD.eq rfl (EnvD.eq rfl (EnvD.eq rfl (EnvD.eq rfl (EnvD.nil))))))) (TkD.cons _ _ _ _ _ Rem.p0 (HLe.refl _) (TkD.cons _ _ _ _ _ Rem.p0 (HLe.st ⟨⟨⟨⟨trivial, DLe.refl _⟩, DLe.refl _⟩, DLe.refl _⟩, DLe.len (by first | rfl | omega | (simp only [row_len] <;> first | rfl | omega))⟩) (TkD.nil _))) ?_
 rintro m42 v h ⟨k41, l36, β35, ⟨hkk41, hF38⟩, rfl, rfl⟩
 refine GoC.seq ?_
 refine GoC.region ?_
 refine GoO.pure (ps_lss rfl rfl rfl) ?_
 refine GoO.nil ?_
 refine GoK.code ?_
 refine GoC.seq ?_
 refine GoC.condD rfl (fun (hk41 : (k41 : Int) < ((l.length : Nat) : Int)) => ?_) (fun (hk41 : ¬ (k41 : Int) < ((l.length : Nat) : Int)) => ?_)
 obtain ⟨m42', rfl⟩ : ∃ x, m42 = x + 1 := ⟨m42 - 1, by omega⟩
 have hb := bind_l hF38; clear hF38
 obtain ⟨qrm42, H, hF38⟩ := hb
 have hnk41 : k41 < l.length := by omega
 have hIk41 : InI ((k41 : Int) + 1) := inI_len hk41 ml34
 refine GoC.skip ?_
 refine GoK.code ?_
 refine GoC.seq ?_
 refine GoC.block ?_
 refine GoC.seq ?_
 refine GoC.region ?_
 refine GoO.pure (ps_indexAddrRN rfl rfl hnk41 rfl) ?_
 refine GoO.pure (ps_loadAgR rfl hnk41 rfl rfl) ?_
 refine GoO.effB (ef_alloc rfl) (fun β43 => ?_)
 refine GoO.eff1 (ef_storeAg rfl rfl At.p0 upd_whole Nat.zero_lt_one rfl) ?_
 refine GoO.nil ?_
 refine GoK.code ?_
 refine GoC.region ?_
 refine GoO.pure (ps_fieldAddr rfl rfl) ?_
 refine GoO.pure (ps_load rfl At.p2 At.p2 Nat.zero_lt_one rfl rfl) ?_
 refine GoO.pure (ps_fieldAddr rfl rfl) ?_
 refine GoO.pure (ps_load rfl At.p0 At.p0 Nat.zero_lt_one rfl rfl) ?_
 refine GoO.pure (ps_fieldAddr rfl rfl) ?_
 refine GoO.pure (ps_load rfl At.p0 At.p0 Nat.zero_lt_one rfl rfl) ?_
 refine GoO.pure (ps_build (Parts.cons _ _ _ _ _ _ _ _ FdP.of (Part.one _ rfl rfl) rfl rfl (Parts.cons _ _ _ _ _ _ _ _ FdP.of (Part.one _ rfl rfl) rfl rfl (Parts.cons _ _ _ _ _ _ _ _ FdP.of (Part.one _ rfl rfl) rfl rfl (Parts.nil _)))) rfl) ?_
 refine GoO.effB (ef_buildSlice (row ([(⟨(l.getD k41 El.d).f, (l.getD k41 El.d).t, 10000⟩ : Arc)] : List Arc)) rfl (Parts.cons _ _ _ _ _ _ _ _ ⟨rfl, rfl⟩ (Part.ag _ _ rfl) rfl rfl (Parts.nil _)) rfl rfl rfl rfl) (fun β44 => ?_)
 have c46 := ck_l H; replace H := ck_r H
 refine GoO.effB (ef_append rfl rfl Rem.p2 (Src.own At.p0 (by first | omega | (simp only [subl_length, cpl_length, List.length_set, List.length_append, List.length_cons, List.length_nil, List.length_replicate, row_len]; omega) | (simp only [subl_length, cpl_length, List.length_set, List.length_append, List.length_cons, List.length_nil, List.length_replicate, row_len]; done))) (cat_row (α := Arc) (by first | rfl | omega | (simp only [subl_length, cpl_length, List.length_set, List.length_append, List.length_cons, List.length_nil, List.length_replicate, row_len] <;> first | rfl | omega)) (by first | rfl | omega | (simp only [subl_length, cpl_length, List.length_set, List.length_append, List.length_cons, List.length_nil, List.length_replicate, row_len] <;> first | rfl | omega)) (fun _ _ _ _ => rfl)) (by first | omega | (simp only [subl_length, cpl_length, List.length_set, List.length_append, List.length_cons, List.length_nil, List.length_replicate, row_len]; omega) | (simp only [subl_length, cpl_length, List.length_set, List.length_append, List.length_cons, List.length_nil, List.length_replicate, row_len]; done)) (app_le c46 rfl) rfl rfl rfl) (fun β45 => ?_)
 refine GoO.pure (ps_fieldAddr rfl rfl) ?_
 refine GoO.eff1 (ef_store rfl rfl rfl At.p3 upd_st1 Nat.zero_lt_one rfl) ?_
 refine GoO.nil ?_
 refine GoK.blk ?_
 refine GoK.code ?_
 refine GoC.region ?_
 refine GoO.pure (ps_add rfl rfl rfl hIk41) ?_
 refine GoO.pure (ps_move rfl rfl) ?_
 refine GoO.nil ?_
 obtain rfl := Option.some.inj H
 exact GoK.againJ m42' (by omega) ⟨_, _, β45, ⟨by omega, hF38⟩, rfl, rfl⟩ (EnvD.eq rfl (EnvD.eq rfl (EnvD.eq rfl (EnvD.eq rfl (EnvD.eq rfl (EnvD.eq rfl (EnvD.nil))))))) (TkD.cons _ _ _ _ _ Rem.p0 (HLe.refl _) (TkD.cons _ _ _ _ _ Rem.p2 (HLe.st ⟨⟨⟨⟨trivial, DLe.refl _⟩, DLe.refl _⟩, DLe.refl _⟩, DLe.len (by first | rfl | omega | (simp only [row_len, List.length_append, List.length_cons, List.length_nil] <;> first | rfl | omega))⟩) (TkD.nil _)))
 obtain rfl : m42 = 0 := by omega
 refine GoC.exit rfl ?_
 cases hF38
 exact GoK.meet ⟨β35, rfl, rfl⟩ (EnvD.eq rfl (EnvD.eq rfl (EnvD.eq rfl (EnvD.nil)))) (TkD.cons _ _ _ _ _ Rem.p0 (HLe.refl _) (TkD.cons _ _ _ _ _ Rem.p0 (HLe.st ⟨⟨⟨⟨trivial, DLe.refl _⟩, DLe.refl _⟩, DLe.refl _⟩, DLe.len (by first | rfl | omega | (simp only [row_len] <;> first | rfl | omega))⟩) (TkD.nil _)))
 rintro v h ⟨β35, rfl, rfl⟩
 have H := HK37; clear HK37
 refine GoK.code ?_
 refine GoC.seq ?_
 refine GoC.region ?_
 refine GoO.pure (ps_loadAg rfl At.p1 At.p1 Nat.zero_lt_one rfl rfl) ?_
 have hb := bind_l H; clear H
 obtain ⟨⟨r48, r49, r50⟩, e51, H⟩ := hb
 refine GoO.effC (ef_call rfl (Take.nil _) (Take.cons _ _ _ _ _ Rem.p0 (Take.nil _)) (cut_Least_spec (⟨(((gain.length + 2) : Nat) : Int), ((gain.length : Nat) : Int), (((gain.length + 1) : Nat) : Int), l40⟩ : Net) e51) (LendL.cons (Lend.agA ⟨⟨⟨⟨trivial, Lend.refl _ _⟩, Lend.refl _ _⟩, Lend.refl _ _⟩, Lend.all' At.p0 (by first | rfl | omega | (simp only [subl_length, cpl_length, List.length_set, List.length_append, List.length_cons, List.length_nil, List.length_replicate, row_len] <;> first | rfl | omega)) rfl⟩) (LendL.nil)) rfl (cut_Least_I (r48, r49, r50))) (fun rr HH hp => ?_)
 obtain ⟨rfl, rfl⟩ := hp
 refine GoO.pure (ps_move rfl rfl) ?_
 refine GoO.pure (ps_extract rfl rfl rfl) ?_
 refine GoO.pure (ps_extract rfl rfl rfl) ?_
 refine GoO.pure (ps_extract rfl rfl rfl) ?_
 refine GoO.pure (ps_assign rfl rfl) ?_
 refine GoO.pure (ps_assign rfl rfl) ?_
 refine GoO.pure (ps_assign rfl rfl) ?_
 refine GoO.nil ?_
 refine GoK.code ?_
 refine GoC.seq ?_
 refine GoC.region ?_
 refine GoO.pure (ps_move rfl rfl) ?_
 refine GoO.pure (ps_move rfl rfl) ?_
 refine GoO.pure (ps_shl rfl rfl rfl (by omega)) ?_
 refine GoO.pure (ps_subw rfl rfl rfl) ?_
 refine GoO.pure (ps_and rfl rfl rfl) ?_
 refine GoO.pure (ps_move rfl rfl) ?_
 refine GoO.pure (ps_move rfl rfl) ?_
 have c52 := ck_l H; replace H := ck_r H
 refine GoO.pure (ps_sub rfl rfl rfl c52) ?_
 refine GoO.pure (ps_assign rfl rfl) ?_
 refine GoO.pure (ps_assign rfl rfl) ?_
 refine GoO.pure (ps_assign rfl rfl) ?_
 refine GoO.nil ?_
 refine GoK.code ?_
 obtain rfl := Option.some.inj H
 exact GoC.retL (ds := [.v (.int .u16 (bitsOf .and .u16 r48 (IntKind.u16.wrap ((IntKind.u16.wrap (1 * 2 ^ min gain.length 16)) - 1)))), .v (.int .i64 (x15 - r49)), .v (.int .i64 0)]) Try.results16 (ResL.cons (ResD.tmp rfl) (ResL.cons (ResD.tmp rfl) (ResL.cons (ResD.tmp rfl) (ResL.nil)))) (Take.nil _) ⟨rfl, rfl⟩

end Go.Proofs.Ytlelfifbmckhgaa
