/- The functions weirkeep.AssignDual, told as plain functions, and that the code does as they say. -/
import Derived.Test.YtkpdkigkhbkfiaaTys
import Derived.Test.YtkpdkigkhbkfiaaDat
import Derived.Test.YtkpdkigkhbkfiaaGassign
import Derived.Test.YtkpdkigkhbkfiaaGkeep
import Derived.Test.YtkpdkigkhbkfiaaGref
namespace Go.Proofs.Ytkpdkigkhbkfiaa
open Go Go.Proofs.Ytkpdkigkhbkfiaa.Sx
set_option linter.unusedVariables false
set_option linter.unusedSimpArgs false
def weirkeep_AssignDual_B1 (gain : (List (List Int))) (way : (List Int)) : Nat → Int → Option (Int) := fun k24 x19 =>
 ck (k24 < gain.length) <|
 ck (0 ≤ (way.getD k24 (0 : Int)) ∧ (way.getD k24 (0 : Int)) < (((gain.getD k24 []).length : Nat) : Int)) <|
 ck (InI (x19 + ((gain.getD k24 []).getD ((way.getD k24 (0 : Int)).toNat) (0 : Int)))) <|
 some (x19 + ((gain.getD k24 []).getD ((way.getD k24 (0 : Int)).toNat) (0 : Int)))
def weirkeep_AssignDual_B2 (rest : (List Int)) (price : (List Int)) : Nat → Int → Option (Ct (Int) (Bool)) := fun k40 x35 =>
 ck (k40 < rest.length) <|
 if (rest.getD k40 (0 : Int)) < (-5000) then
  some (.ret true)
 else
  if 5000 < (rest.getD k40 (0 : Int)) then
   some (.ret true)
  else
   ck (k40 < price.length) <|
   if (price.getD k40 (0 : Int)) < (-5000) then
    some (.ret true)
   else
    if 5000 < (price.getD k40 (0 : Int)) then
     some (.ret true)
    else
     ck (InI ((rest.getD k40 (0 : Int)) + (price.getD k40 (0 : Int)))) <|
     ck (InI (x35 + ((rest.getD k40 (0 : Int)) + (price.getD k40 (0 : Int))))) <|
     some (.go (x35 + ((rest.getD k40 (0 : Int)) + (price.getD k40 (0 : Int)))))
def weirkeep_AssignDual_B4 (gain : (List (List Int))) (rest : (List Int)) (price : (List Int)) (k54 : Nat) : Nat → Unit → Option (Ct (Unit) (Ct (Unit) (Bool))) := fun k59 _ =>
 ck (k54 < rest.length) <|
 ck (k59 < price.length) <|
 ck (InI ((rest.getD k54 (0 : Int)) + (price.getD k59 (0 : Int)))) <|
 ck (k59 < (gain.getD k54 []).length) <|
 if ((rest.getD k54 (0 : Int)) + (price.getD k59 (0 : Int))) < ((gain.getD k54 []).getD k59 (0 : Int)) then
  some (.ret (.ret true))
 else
  some (.go ())
def weirkeep_AssignDual_B3 (gain : (List (List Int))) (rest : (List Int)) (price : (List Int)) : Nat → Unit → Option (Ct (Unit) (Bool)) := fun k54 _ =>
 (forC (weirkeep_AssignDual_B4 gain rest price k54) gain.length 0 ()).bind fun q => match q with
 | .go _ =>
  some (.go ())
 | .ret x => some x
def weirkeep_AssignDual_F (gain : (List (List Int))) (rest : (List Int)) (price : (List Int)) (way : (List Int)) : Option (Bool) :=
 (weirkeep_assigns_F).bind fun r1 =>
 if (!r1) = true then
  some false
 else
  (assign_Best_F gain).bind fun (r4, r6, r7) =>
  if r7 ≠ 0 then
   if ((r4.length : Nat) : Int) = 0 then
    some (decide (r6 = 0))
   else
    some false
  else
   ((
    (weirref_Numbers_F way ((gain.length : Nat) : Int)).bind fun r15 =>
    if r15 = true then
     (forN (weirkeep_AssignDual_B1 gain way) way.length 0 0).bind fun x23 =>
     if r6 < x23 then
      some (.ret false)
     else
      some (.go ())
    else
     some (.go ())) : Option (Ex (Unit) (Bool))).bind fun q => match q with
   | .go () =>
    if ((rest.length : Nat) : Int) ≠ ((gain.length : Nat) : Int) then
     some true
    else
     if ((price.length : Nat) : Int) ≠ ((gain.length : Nat) : Int) then
      some true
     else
      (forC (weirkeep_AssignDual_B2 rest price) gain.length 0 0).bind fun q => match q with
      | .go x39 =>
       (forC (weirkeep_AssignDual_B3 gain rest price) gain.length 0 ()).bind fun q => match q with
       | .go _ =>
        some (decide (r6 ≤ x39))
       | .ret x => some x
      | .ret x => some x
   | .ret x => some x
def weirkeep_AssignDual_P (out : Bool) (d : D) (H : List HL) : Prop := d = .v (.bool out) ∧ H = []
theorem weirkeep_AssignDual_I (out : Bool) : IndepP (weirkeep_AssignDual_P out) := IndepP.of (by rintro _ _ ⟨rfl, rfl⟩; exact ⟨inferInstance, inferInstance⟩)
set_option maxRecDepth 100000 in
set_option maxHeartbeats 4000000 in
theorem weirkeep_AssignDual_spec (gain : (List (List Int))) (rest : (List Int)) (price : (List Int)) (way : (List Int)) {out : Bool} (H : weirkeep_AssignDual_F gain rest price way = some out) : Does Try.prog 8 [slD gain, slD rest, slD price, slD way] [] (weirkeep_AssignDual_P out) := by
 unfold weirkeep_AssignDual_F at H
 refine Does.intro Try.func8 rfl Try.ntmps8 rfl fun w0 I0 => ?_
 refine GoC.seq ?_
 refine GoC.region ?_
 refine GoO.pure (ps_assign rfl rfl) ?_
 refine GoO.nil ?_
 refine GoK.code ?_
 refine GoC.seq ?_
 refine GoC.seq ?_
 refine GoC.region ?_
 have hb := bind_l H; clear H
 obtain ⟨r1, e2, H⟩ := hb
 refine GoO.effC (ef_call rfl (Take.nil _) (Take.nil _) (weirkeep_assigns_spec e2) (LendL.nil) rfl (weirkeep_assigns_I (r1))) (fun rr HH hp => ?_)
 obtain ⟨rfl, rfl⟩ := hp
 refine GoO.pure (ps_not rfl rfl) ?_
 refine GoO.nil ?_
 refine GoK.code ?_
 refine GoC.cond rfl (fun h3 => ?_) (fun h3 => ?_)
 replace H := itb_t h3 H
 refine GoC.seq ?_
 refine GoC.region ?_
 refine GoO.pure (ps_assign rfl rfl) ?_
 refine GoO.nil ?_
 refine GoK.code ?_
 obtain rfl := Option.some.inj H
 exact GoC.retL (ds := [.v (.bool false)]) Try.results8 (ResL.cons (ResD.tmp rfl) (ResL.nil)) (Take.nil _) ⟨rfl, rfl⟩
 replace H := itb_f h3 H
 refine GoC.skip ?_
 refine GoK.code ?_
 refine GoC.seq ?_
 refine GoC.region ?_
 refine GoO.pure (ps_move rfl rfl) ?_
 have hb := bind_l H; clear H
 obtain ⟨⟨r4, r6, r7⟩, e8, H⟩ := hb
 refine GoO.effC (ef_call rfl (Take.nil _) (Take.nil _) (assign_Best_spec gain e8) (LendL.cons (Lend.refl _ _) (LendL.nil)) rfl (assign_Best_I (r4, r6, r7))) (fun rr HH hp => ?_)
 obtain ⟨β5, rfl, rfl⟩ := hp
 refine GoO.pure (ps_move rfl rfl) ?_
 refine GoO.pure (ps_extract rfl rfl rfl) ?_
 refine GoO.pure (ps_extract rfl rfl rfl) ?_
 refine GoO.pure (ps_extract rfl rfl rfl) ?_
 refine GoO.pure (ps_assign rfl rfl) ?_
 refine GoO.pure (ps_assign rfl rfl) ?_
 refine GoO.pure (ps_assign rfl rfl) ?_
 refine GoO.nil ?_
 refine GoK.code ?_
 refine GoC.seq ?_
 refine GoC.seq ?_
 refine GoC.region ?_
 refine GoO.pure (ps_move rfl rfl) ?_
 refine GoO.pure (ps_neq rfl rfl rfl) ?_
 refine GoO.nil ?_
 refine GoK.code ?_
 refine GoC.condD rfl (fun h9 => ?_) (fun h9 => ?_)
 replace H := ite_t h9 H
 refine GoC.seq ?_
 refine GoC.region ?_
 refine GoO.pure (ps_move rfl rfl) ?_
 refine GoO.pure (ps_len rfl (by constructor) rfl) ?_
 refine GoO.lenLe (n := r4.length) (x := .tmp 30) rfl (by constructor) own_lenLe (fun ml10 => ?_)
 refine GoO.pure (ps_eql rfl rfl rfl) ?_
 refine GoO.pure (ps_move rfl rfl) ?_
 refine GoO.guardD rfl rfl rfl rfl (fun h11 => ?_) (fun h11 => ?_)
 replace H := ite_t h11 H
 refine GoO.pure (ps_move rfl rfl) ?_
 refine GoO.guardT rfl rfl rfl ?_
 refine GoO.pure (ps_eql rfl rfl rfl) ?_
 refine GoO.pure (ps_pickT rfl rfl rfl) ?_
 refine GoO.pure (ps_assign rfl rfl) ?_
 refine GoO.nil ?_
 refine GoK.code ?_
 obtain rfl := Option.some.inj H
 exact GoC.retL (ds := [.v (.bool (decide (r6 = 0)))]) Try.results8 (ResL.cons (ResD.tmp rfl) (ResL.nil)) (Take.nil _) ⟨rfl, rfl⟩
 replace H := ite_f h11 H
 refine GoO.guardF rfl rfl rfl rfl ?_
 refine GoO.pure (ps_pickF rfl rfl rfl) ?_
 refine GoO.pure (ps_assign rfl rfl) ?_
 refine GoO.nil ?_
 refine GoK.code ?_
 obtain rfl := Option.some.inj H
 exact GoC.retL (ds := [.v (.bool false)]) Try.results8 (ResL.cons (ResD.tmp rfl) (ResL.nil)) (Take.nil _) ⟨rfl, rfl⟩
 replace H := ite_f h9 H
 refine GoC.skip ?_
 refine GoK.code ?_
 refine GoC.seq ?_
 refine GoC.region ?_
 refine GoO.pure (ps_move rfl rfl) ?_
 refine GoO.pure (ps_len rfl (by constructor) rfl) ?_
 refine GoO.lenLe (n := gain.length) (x := .tmp 37) rfl (by constructor) sl_lenLe (fun ml12 => ?_)
 refine GoO.pure (ps_assign rfl rfl) ?_
 refine GoO.nil ?_
 refine GoK.code ?_
 have hb := bind_l H; clear H
 obtain ⟨q14, H, HK13⟩ := hb
 refine GoC.seqJ [(0, slD gain), (1, slD rest), (2, slD price), (10, .v (.int .i64 r6)), (12, .v (.int .i64 ((gain.length : Nat) : Int)))] [.one β5 3 1 (row r4)] (fun v h => q14 = .go () ∧ v = [] ∧ h = []) ?_ ?_
 refine GoC.seq ?_
 refine GoC.region ?_
 refine GoO.pure (ps_move rfl rfl) ?_
 refine GoO.pure (ps_move rfl rfl) ?_
 have hb := bind_l H; clear H
 obtain ⟨r15, e16, H⟩ := hb
 refine GoO.effC (ef_call rfl (Take.nil _) (Take.nil _) (weirref_Numbers_spec way ((gain.length : Nat) : Int) e16) (LendL.cons (Lend.refl _ _) (LendL.cons (Lend.refl _ _) (LendL.nil))) rfl (weirref_Numbers_I (r15))) (fun rr HH hp => ?_)
 obtain ⟨rfl, rfl⟩ := hp
 refine GoO.nil ?_
 refine GoK.code ?_
 refine GoC.cond rfl (fun h17 => ?_) (fun h17 => ?_)
 replace H := itb_t h17 H
 refine GoC.seq ?_
 refine GoC.region ?_
 refine GoO.pure (ps_assign rfl rfl) ?_
 refine GoO.nil ?_
 refine GoK.code ?_
 refine GoC.seq ?_
 refine GoC.seq ?_
 refine GoC.region ?_
 refine GoO.pure (ps_move rfl rfl) ?_
 refine GoO.pure (ps_len rfl (by constructor) rfl) ?_
 refine GoO.lenLe (n := way.length) (x := .tmp 42) rfl (by constructor) sl_lenLe (fun ml18 => ?_)
 refine GoO.pure (ps_move rfl rfl) ?_
 refine GoO.nil ?_
 refine GoK.code ?_
 have hb := bind_l H; clear H
 obtain ⟨x23, hl29, HK20⟩ := hb
 refine GoC.blockJ [(0, slD gain), (1, slD rest), (2, slD price), (10, .v (.int .i64 r6)), (12, .v (.int .i64 ((gain.length : Nat) : Int)))] [.one β5 3 1 (row r4)] (fun v h => v = [(13, .v (.int .i64 x23))] ∧ h = []) ?_ ?_
 refine GoC.loopJ [(0, _), (1, _), (2, _), (10, _), (12, _), (42, _), (43, _)] [.one β5 3 1 (row r4)] (fun mQ v h => ∃ (k24 : Nat) (x19 : Int), (k24 + mQ = way.length ∧ forN (weirkeep_AssignDual_B1 gain way) mQ k24 x19 = some x23) ∧ v = [(44, .v (.int .i64 ((k24 : Nat) : Int))), (13, .v (.int .i64 x19))] ∧ h = []) way.length ⟨_, _, ⟨by omega, hl29⟩, rfl, rfl⟩ (EnvD.eq rfl (EnvD.eq rfl (EnvD.eq rfl (EnvD.eq rfl (EnvD.eq rfl (EnvD.eq rfl (EnvD.eq rfl (EnvD.eq rfl (EnvD.eq rfl (EnvD.nil)))))))))) (TkD.cons _ _ _ _ _ Rem.p0 (HLe.refl _) (TkD.nil _)) ?_
 rintro m25 v h ⟨k24, x19, ⟨hkk24, hF21⟩, rfl, rfl⟩
 refine GoC.seq ?_
 refine GoC.region ?_
 refine GoO.pure (ps_lss rfl rfl rfl) ?_
 refine GoO.nil ?_
 refine GoK.code ?_
 refine GoC.seq ?_
 refine GoC.condD rfl (fun (hk24 : (k24 : Int) < ((way.length : Nat) : Int)) => ?_) (fun (hk24 : ¬ (k24 : Int) < ((way.length : Nat) : Int)) => ?_)
 obtain ⟨m25', rfl⟩ : ∃ x, m25 = x + 1 := ⟨m25 - 1, by omega⟩
 have hb := bind_l hF21; clear hF21
 obtain ⟨qrm25, H, hF21⟩ := hb
 have hnk24 : k24 < way.length := by omega
 have hIk24 : InI ((k24 : Int) + 1) := inI_len hk24 ml18
 refine GoC.skip ?_
 refine GoK.code ?_
 refine GoC.seq ?_
 refine GoC.block ?_
 refine GoC.seq ?_
 refine GoC.region ?_
 refine GoO.pure (ps_move rfl rfl) ?_
 refine GoO.pure (ps_indexAddrRN rfl rfl hnk24 rfl) ?_
 refine GoO.pure (ps_loadR rfl hnk24 rfl rfl) ?_
 refine GoO.pure (ps_assign rfl rfl) ?_
 refine GoO.pure (ps_assign rfl rfl) ?_
 refine GoO.nil ?_
 refine GoK.code ?_
 refine GoC.region ?_
 refine GoO.pure (ps_move rfl rfl) ?_
 refine GoO.pure (ps_move rfl rfl) ?_
 refine GoO.pure (ps_move rfl rfl) ?_
 have c26 := ck_l H; replace H := ck_r H
 refine GoO.pure (ps_indexAddrRN rfl rfl c26 rfl) ?_
 refine GoO.pure (ps_loadR rfl c26 rfl rfl) ?_
 refine GoO.pure (ps_move rfl rfl) ?_
 have c27 := ck_l H; replace H := ck_r H
 refine GoO.pure (ps_indexAddrR rfl rfl c27 rfl) ?_
 refine GoO.pure (ps_loadR rfl (idx_lt c27) rfl rfl) ?_
 have c28 := ck_l H; replace H := ck_r H
 refine GoO.pure (ps_add rfl rfl rfl c28) ?_
 refine GoO.pure (ps_assign rfl rfl) ?_
 refine GoO.nil ?_
 refine GoK.blk ?_
 refine GoK.code ?_
 refine GoC.region ?_
 refine GoO.pure (ps_add rfl rfl rfl hIk24) ?_
 refine GoO.pure (ps_move rfl rfl) ?_
 refine GoO.nil ?_
 obtain rfl := Option.some.inj H
 exact GoK.againJ m25' (by omega) ⟨_, _, ⟨by omega, hF21⟩, rfl, rfl⟩ (EnvD.eq rfl (EnvD.eq rfl (EnvD.eq rfl (EnvD.eq rfl (EnvD.eq rfl (EnvD.eq rfl (EnvD.eq rfl (EnvD.eq rfl (EnvD.eq rfl (EnvD.nil)))))))))) (TkD.cons _ _ _ _ _ Rem.p0 (HLe.refl _) (TkD.nil _))
 obtain rfl : m25 = 0 := by omega
 refine GoC.exit rfl ?_
 cases hF21
 exact GoK.meet ⟨rfl, rfl⟩ (EnvD.eq rfl (EnvD.eq rfl (EnvD.eq rfl (EnvD.eq rfl (EnvD.eq rfl (EnvD.eq rfl (EnvD.nil))))))) (TkD.cons _ _ _ _ _ Rem.p0 (HLe.refl _) (TkD.nil _))
 rintro v h ⟨rfl, rfl⟩
 have H := HK20; clear HK20
 refine GoK.code ?_
 refine GoC.seq ?_
 refine GoC.region ?_
 refine GoO.pure (ps_move rfl rfl) ?_
 refine GoO.pure (ps_move rfl rfl) ?_
 refine GoO.pure (ps_gtr rfl rfl rfl) ?_
 refine GoO.nil ?_
 refine GoK.code ?_
 refine GoC.condD rfl (fun h30 => ?_) (fun h30 => ?_)
 replace H := ite_t h30 H
 refine GoC.seq ?_
 refine GoC.region ?_
 refine GoO.pure (ps_assign rfl rfl) ?_
 refine GoO.nil ?_
 refine GoK.code ?_
 obtain rfl := Option.some.inj H
 obtain rfl := Option.some.inj HK13
 exact GoC.retL (ds := [.v (.bool false)]) Try.results8 (ResL.cons (ResD.tmp rfl) (ResL.nil)) (Take.nil _) ⟨rfl, rfl⟩
 replace H := ite_f h30 H
 refine GoC.skip ?_
 obtain rfl := Option.some.inj H
 exact GoK.meet ⟨rfl, rfl, rfl⟩ (EnvD.eq rfl (EnvD.eq rfl (EnvD.eq rfl (EnvD.eq rfl (EnvD.eq rfl (EnvD.nil)))))) (TkD.cons _ _ _ _ _ Rem.p0 (HLe.refl _) (TkD.nil _))
 replace H := itb_f h17 H
 refine GoC.skip ?_
 obtain rfl := Option.some.inj H
 exact GoK.meet ⟨rfl, rfl, rfl⟩ (EnvD.eq rfl (EnvD.eq rfl (EnvD.eq rfl (EnvD.eq rfl (EnvD.eq rfl (EnvD.nil)))))) (TkD.cons _ _ _ _ _ Rem.p0 (HLe.refl _) (TkD.nil _))
 rintro v h ⟨rfl, rfl, rfl⟩
 have H := HK13; clear HK13
 refine GoC.seq ?_
 refine GoC.seq ?_
 refine GoC.region ?_
 refine GoO.pure (ps_move rfl rfl) ?_
 refine GoO.pure (ps_len rfl (by constructor) rfl) ?_
 refine GoO.lenLe (n := rest.length) (x := .tmp 62) rfl (by constructor) sl_lenLe (fun ml31 => ?_)
 refine GoO.pure (ps_move rfl rfl) ?_
 refine GoO.pure (ps_neq rfl rfl rfl) ?_
 refine GoO.pure (ps_move rfl rfl) ?_
 refine GoO.guardE rfl rfl rfl rfl (fun h32 => ?_) (fun h32 => ?_)
 replace H := ite_f h32 H
 refine GoO.pure (ps_move rfl rfl) ?_
 refine GoO.guardT rfl rfl rfl ?_
 refine GoO.pure (ps_len rfl (by constructor) rfl) ?_
 refine GoO.lenLe (n := price.length) (x := .tmp 67) rfl (by constructor) sl_lenLe (fun ml33 => ?_)
 refine GoO.guardT rfl rfl rfl ?_
 refine GoO.pure (ps_move rfl rfl) ?_
 refine GoO.guardT rfl rfl rfl ?_
 refine GoO.pure (ps_neq rfl rfl rfl) ?_
 refine GoO.pure (ps_pickF rfl rfl rfl) ?_
 refine GoO.nil ?_
 refine GoK.code ?_
 refine GoC.condD rfl (fun h34 => ?_) (fun h34 => ?_)
 replace H := ite_t h34 H
 refine GoC.seq ?_
 refine GoC.region ?_
 refine GoO.pure (ps_assign rfl rfl) ?_
 refine GoO.nil ?_
 refine GoK.code ?_
 obtain rfl := Option.some.inj H
 exact GoC.retL (ds := [.v (.bool true)]) Try.results8 (ResL.cons (ResD.tmp rfl) (ResL.nil)) (Take.nil _) ⟨rfl, rfl⟩
 replace H := ite_f h34 H
 refine GoC.skip ?_
 refine GoK.code ?_
 refine GoC.seq ?_
 refine GoC.region ?_
 refine GoO.pure (ps_assign rfl rfl) ?_
 refine GoO.nil ?_
 refine GoK.code ?_
 refine GoC.seq ?_
 refine GoC.seq ?_
 refine GoC.region ?_
 refine GoO.pure (ps_move rfl rfl) ?_
 refine GoO.pure (ps_len rfl (by constructor) rfl) ?_
 refine GoO.pure (ps_move rfl rfl) ?_
 refine GoO.nil ?_
 refine GoK.code ?_
 have hb := bind_l H; clear H
 obtain ⟨q38, hl50, HK36⟩ := hb
 refine GoC.blockJ [(0, slD gain), (1, slD rest), (2, slD price), (10, .v (.int .i64 r6))] [.one β5 3 1 (row r4)] (fun v h => ∃ (x39 : Int), q38 = .go x39 ∧ v = [(16, .v (.int .i64 x39))] ∧ h = []) ?_ ?_
 refine GoC.loopJ [(0, _), (1, _), (2, _), (10, _), (73, _)] [.one β5 3 1 (row r4)] (fun mQ v h => ∃ (k40 : Nat) (x35 : Int), (k40 + mQ = gain.length ∧ forC (weirkeep_AssignDual_B2 rest price) mQ k40 x35 = some q38) ∧ v = [(74, .v (.int .i64 ((k40 : Nat) : Int))), (16, .v (.int .i64 x35))] ∧ h = []) gain.length ⟨_, _, ⟨by omega, hl50⟩, rfl, rfl⟩ (EnvD.eq rfl (EnvD.eq rfl (EnvD.eq rfl (EnvD.eq rfl (EnvD.eq rfl (EnvD.eq rfl (EnvD.eq rfl (EnvD.nil)))))))) (TkD.cons _ _ _ _ _ Rem.p0 (HLe.refl _) (TkD.nil _)) ?_
 rintro m41 v h ⟨k40, x35, ⟨hkk40, hF37⟩, rfl, rfl⟩
 refine GoC.seq ?_
 refine GoC.region ?_
 refine GoO.pure (ps_lss rfl rfl rfl) ?_
 refine GoO.nil ?_
 refine GoK.code ?_
 refine GoC.seq ?_
 refine GoC.condD rfl (fun (hk40 : (k40 : Int) < ((gain.length : Nat) : Int)) => ?_) (fun (hk40 : ¬ (k40 : Int) < ((gain.length : Nat) : Int)) => ?_)
 obtain ⟨m41', rfl⟩ : ∃ x, m41 = x + 1 := ⟨m41 - 1, by omega⟩
 have hb := bind_l hF37; clear hF37
 obtain ⟨qrm41, H, hF37⟩ := hb
 have hnk40 : k40 < gain.length := by omega
 have hIk40 : InI ((k40 : Int) + 1) := inI_len hk40 ml12
 refine GoC.skip ?_
 refine GoK.code ?_
 refine GoC.seq ?_
 refine GoC.block ?_
 refine GoC.seq ?_
 refine GoC.region ?_
 refine GoO.pure (ps_move rfl rfl) ?_
 refine GoO.pure (ps_assign rfl rfl) ?_
 refine GoO.nil ?_
 refine GoK.code ?_
 refine GoC.seq ?_
 refine GoC.seq ?_
 refine GoC.region ?_
 refine GoO.pure (ps_move rfl rfl) ?_
 refine GoO.pure (ps_move rfl rfl) ?_
 have c42 := ck_l H; replace H := ck_r H
 refine GoO.pure (ps_indexAddrRN rfl rfl c42 rfl) ?_
 refine GoO.pure (ps_loadR rfl c42 rfl rfl) ?_
 refine GoO.pure (ps_lss rfl rfl rfl) ?_
 refine GoO.pure (ps_move rfl rfl) ?_
 refine GoO.guardE rfl rfl rfl rfl (fun h43 => ?_) (fun h43 => ?_)
 replace H := ite_f h43 H
 refine GoO.pure (ps_move rfl rfl) ?_
 refine GoO.guardT rfl rfl rfl ?_
 refine GoO.pure (ps_move rfl rfl) ?_
 refine GoO.guardT rfl rfl rfl ?_
 refine GoO.pure (ps_indexAddrRN rfl rfl c42 rfl) ?_
 refine GoO.guardT rfl rfl rfl ?_
 refine GoO.pure (ps_loadR rfl c42 rfl rfl) ?_
 refine GoO.guardT rfl rfl rfl ?_
 refine GoO.pure (ps_gtr rfl rfl rfl) ?_
 refine GoO.pure (ps_pickF rfl rfl rfl) ?_
 refine GoO.pure (ps_move rfl rfl) ?_
 refine GoO.guardE rfl rfl rfl rfl (fun h44 => ?_) (fun h44 => ?_)
 replace H := ite_f h44 H
 refine GoO.pure (ps_move rfl rfl) ?_
 refine GoO.guardT rfl rfl rfl ?_
 refine GoO.pure (ps_move rfl rfl) ?_
 refine GoO.guardT rfl rfl rfl ?_
 have c45 := ck_l H; replace H := ck_r H
 refine GoO.pure (ps_indexAddrRN rfl rfl c45 rfl) ?_
 refine GoO.guardT rfl rfl rfl ?_
 refine GoO.pure (ps_loadR rfl c45 rfl rfl) ?_
 refine GoO.guardT rfl rfl rfl ?_
 refine GoO.pure (ps_lss rfl rfl rfl) ?_
 refine GoO.pure (ps_pickF rfl rfl rfl) ?_
 refine GoO.pure (ps_move rfl rfl) ?_
 refine GoO.guardE rfl rfl rfl rfl (fun h46 => ?_) (fun h46 => ?_)
 replace H := ite_f h46 H
 refine GoO.pure (ps_move rfl rfl) ?_
 refine GoO.guardT rfl rfl rfl ?_
 refine GoO.pure (ps_move rfl rfl) ?_
 refine GoO.guardT rfl rfl rfl ?_
 refine GoO.pure (ps_indexAddrRN rfl rfl c45 rfl) ?_
 refine GoO.guardT rfl rfl rfl ?_
 refine GoO.pure (ps_loadR rfl c45 rfl rfl) ?_
 refine GoO.guardT rfl rfl rfl ?_
 refine GoO.pure (ps_gtr rfl rfl rfl) ?_
 refine GoO.pure (ps_pickF rfl rfl rfl) ?_
 refine GoO.nil ?_
 refine GoK.code ?_
 refine GoC.condD rfl (fun h47 => ?_) (fun h47 => ?_)
 replace H := ite_t h47 H
 refine GoC.seq ?_
 refine GoC.region ?_
 refine GoO.pure (ps_assign rfl rfl) ?_
 refine GoO.nil ?_
 refine GoK.code ?_
 obtain rfl := Option.some.inj H
 obtain rfl := Option.some.inj hF37
 obtain rfl := Option.some.inj HK36
 exact GoC.retL (ds := [.v (.bool true)]) Try.results8 (ResL.cons (ResD.tmp rfl) (ResL.nil)) (Take.nil _) ⟨rfl, rfl⟩
 replace H := ite_f h47 H
 refine GoC.skip ?_
 refine GoK.code ?_
 refine GoC.drawA (.q 0 (.q 1 (.q 2 (.q 3 (.q 4 (.q 5 (.q 6 (.q 7 (.q 8 (.q 9 (.q 10 (.q 11 (.done))))))))))))) follows (by kernel_rfl) ?_
 refine GoP.qN rfl (ps_move rfl rfl) ?_
 refine GoP.qN rfl (ps_move rfl rfl) ?_
 refine GoP.qN rfl (ps_move rfl rfl) ?_
 refine GoP.qN rfl (ps_indexAddrRN rfl rfl c42 rfl) ?_
 refine GoP.qN rfl (ps_loadR rfl c42 rfl rfl) ?_
 refine GoP.qN rfl (ps_move rfl rfl) ?_
 refine GoP.qN rfl (ps_move rfl rfl) ?_
 refine GoP.qN rfl (ps_indexAddrRN rfl rfl c45 rfl) ?_
 refine GoP.qN rfl (ps_loadR rfl c45 rfl rfl) ?_
 have c48 := ck_l H; replace H := ck_r H
 refine GoP.qN rfl (ps_add rfl rfl rfl c48) ?_
 have c49 := ck_l H; replace H := ck_r H
 refine GoP.qN rfl (ps_add rfl rfl rfl c49) ?_
 refine GoP.qN rfl (ps_assign rfl rfl) ?_
 refine GoP.done ?_
 refine GoK.blk ?_
 refine GoK.code ?_
 refine GoC.region ?_
 refine GoO.pure (ps_add rfl rfl rfl hIk40) ?_
 refine GoO.pure (ps_move rfl rfl) ?_
 refine GoO.nil ?_
 obtain rfl := Option.some.inj H
 exact GoK.againJ m41' (by omega) ⟨_, _, ⟨by omega, hF37⟩, rfl, rfl⟩ (EnvD.eq rfl (EnvD.eq rfl (EnvD.eq rfl (EnvD.eq rfl (EnvD.eq rfl (EnvD.eq rfl (EnvD.eq rfl (EnvD.nil)))))))) (TkD.cons _ _ _ _ _ Rem.p0 (HLe.refl _) (TkD.nil _))
 replace H := ite_t h46 H
 refine GoO.guardF rfl rfl rfl rfl ?_
 refine GoO.guardF rfl rfl rfl rfl ?_
 refine GoO.guardF rfl rfl rfl rfl ?_
 refine GoO.guardF rfl rfl rfl rfl ?_
 refine GoO.pure (ps_pickT rfl rfl rfl) ?_
 refine GoO.nil ?_
 refine GoK.code ?_
 refine GoC.condT rfl ?_
 refine GoC.seq ?_
 refine GoC.region ?_
 refine GoO.pure (ps_assign rfl rfl) ?_
 refine GoO.nil ?_
 refine GoK.code ?_
 obtain rfl := Option.some.inj H
 obtain rfl := Option.some.inj hF37
 obtain rfl := Option.some.inj HK36
 exact GoC.retL (ds := [.v (.bool true)]) Try.results8 (ResL.cons (ResD.tmp rfl) (ResL.nil)) (Take.nil _) ⟨rfl, rfl⟩
 replace H := ite_t h44 H
 refine GoO.guardF rfl rfl rfl rfl ?_
 refine GoO.guardF rfl rfl rfl rfl ?_
 refine GoO.guardF rfl rfl rfl rfl ?_
 refine GoO.guardF rfl rfl rfl rfl ?_
 refine GoO.pure (ps_pickT rfl rfl rfl) ?_
 refine GoO.pure (ps_move rfl rfl) ?_
 refine GoO.guardF rfl rfl rfl rfl ?_
 refine GoO.guardF rfl rfl rfl rfl ?_
 refine GoO.guardF rfl rfl rfl rfl ?_
 refine GoO.guardF rfl rfl rfl rfl ?_
 refine GoO.guardF rfl rfl rfl rfl ?_
 refine GoO.pure (ps_pickT rfl rfl rfl) ?_
 refine GoO.nil ?_
 refine GoK.code ?_
 refine GoC.condT rfl ?_
 refine GoC.seq ?_
 refine GoC.region ?_
 refine GoO.pure (ps_assign rfl rfl) ?_
 refine GoO.nil ?_
 refine GoK.code ?_
 obtain rfl := Option.some.inj H
 obtain rfl := Option.some.inj hF37
 obtain rfl := Option.some.inj HK36
 exact GoC.retL (ds := [.v (.bool true)]) Try.results8 (ResL.cons (ResD.tmp rfl) (ResL.nil)) (Take.nil _) ⟨rfl, rfl⟩
 replace H := ite_t h43 H
 refine GoO.guardF rfl rfl rfl rfl ?_
 refine GoO.guardF rfl rfl rfl rfl ?_
 refine GoO.guardF rfl rfl rfl rfl ?_
 refine GoO.guardF rfl rfl rfl rfl ?_
 refine GoO.pure (ps_pickT rfl rfl rfl) ?_
 refine GoO.pure (ps_move rfl rfl) ?_
 refine GoO.guardF rfl rfl rfl rfl ?_
 refine GoO.guardF rfl rfl rfl rfl ?_
 refine GoO.guardF rfl rfl rfl rfl ?_
 refine GoO.guardF rfl rfl rfl rfl ?_
 refine GoO.guardF rfl rfl rfl rfl ?_
 refine GoO.pure (ps_pickT rfl rfl rfl) ?_
 refine GoO.pure (ps_move rfl rfl) ?_
 refine GoO.guardF rfl rfl rfl rfl ?_
 refine GoO.guardF rfl rfl rfl rfl ?_
 refine GoO.guardF rfl rfl rfl rfl ?_
 refine GoO.guardF rfl rfl rfl rfl ?_
 refine GoO.guardF rfl rfl rfl rfl ?_
 refine GoO.pure (ps_pickT rfl rfl rfl) ?_
 refine GoO.nil ?_
 refine GoK.code ?_
 refine GoC.condT rfl ?_
 refine GoC.seq ?_
 refine GoC.region ?_
 refine GoO.pure (ps_assign rfl rfl) ?_
 refine GoO.nil ?_
 refine GoK.code ?_
 obtain rfl := Option.some.inj H
 obtain rfl := Option.some.inj hF37
 obtain rfl := Option.some.inj HK36
 exact GoC.retL (ds := [.v (.bool true)]) Try.results8 (ResL.cons (ResD.tmp rfl) (ResL.nil)) (Take.nil _) ⟨rfl, rfl⟩
 obtain rfl : m41 = 0 := by omega
 refine GoC.exit rfl ?_
 cases hF37
 exact GoK.meet ⟨_, rfl, rfl, rfl⟩ (EnvD.eq rfl (EnvD.eq rfl (EnvD.eq rfl (EnvD.eq rfl (EnvD.eq rfl (EnvD.nil)))))) (TkD.cons _ _ _ _ _ Rem.p0 (HLe.refl _) (TkD.nil _))
 rintro v h ⟨x39, rfl, rfl, rfl⟩
 have H := HK36; clear HK36
 refine GoK.code ?_
 refine GoC.seq ?_
 refine GoC.seq ?_
 refine GoC.region ?_
 refine GoO.pure (ps_move rfl rfl) ?_
 refine GoO.pure (ps_len rfl (by constructor) rfl) ?_
 refine GoO.pure (ps_move rfl rfl) ?_
 refine GoO.nil ?_
 refine GoK.code ?_
 have hb := bind_l H; clear H
 obtain ⟨q53, hl67, HK51⟩ := hb
 refine GoC.blockJ [(10, .v (.int .i64 r6)), (16, .v (.int .i64 x39))] [.one β5 3 1 (row r4)] (fun v h => q53 = .go () ∧ v = [] ∧ h = []) ?_ ?_
 refine GoC.loopJ [(0, _), (1, _), (2, _), (10, _), (16, _), (116, _)] [.one β5 3 1 (row r4)] (fun mQ v h => ∃ (k54 : Nat), (k54 + mQ = gain.length ∧ forC (weirkeep_AssignDual_B3 gain rest price) mQ k54 () = some q53) ∧ v = [(117, .v (.int .i64 ((k54 : Nat) : Int)))] ∧ h = []) gain.length ⟨_, ⟨by omega, hl67⟩, rfl, rfl⟩ (EnvD.eq rfl (EnvD.eq rfl (EnvD.eq rfl (EnvD.eq rfl (EnvD.eq rfl (EnvD.eq rfl (EnvD.eq rfl (EnvD.nil)))))))) (TkD.cons _ _ _ _ _ Rem.p0 (HLe.refl _) (TkD.nil _)) ?_
 rintro m55 v h ⟨k54, ⟨hkk54, hF52⟩, rfl, rfl⟩
 refine GoC.seq ?_
 refine GoC.region ?_
 refine GoO.pure (ps_lss rfl rfl rfl) ?_
 refine GoO.nil ?_
 refine GoK.code ?_
 refine GoC.seq ?_
 refine GoC.condD rfl (fun (hk54 : (k54 : Int) < ((gain.length : Nat) : Int)) => ?_) (fun (hk54 : ¬ (k54 : Int) < ((gain.length : Nat) : Int)) => ?_)
 obtain ⟨m55', rfl⟩ : ∃ x, m55 = x + 1 := ⟨m55 - 1, by omega⟩
 have hb := bind_l hF52; clear hF52
 obtain ⟨qrm55, H, hF52⟩ := hb
 have hnk54 : k54 < gain.length := by omega
 have hIk54 : InI ((k54 : Int) + 1) := inI_len hk54 ml12
 refine GoC.skip ?_
 refine GoK.code ?_
 refine GoC.seq ?_
 refine GoC.block ?_
 refine GoC.seq ?_
 refine GoC.region ?_
 refine GoO.pure (ps_move rfl rfl) ?_
 refine GoO.pure (ps_assign rfl rfl) ?_
 refine GoO.nil ?_
 refine GoK.code ?_
 refine GoC.seq ?_
 refine GoC.region ?_
 refine GoO.pure (ps_move rfl rfl) ?_
 refine GoO.pure (ps_len rfl (by constructor) rfl) ?_
 refine GoO.pure (ps_move rfl rfl) ?_
 refine GoO.nil ?_
 refine GoK.code ?_
 have hb := bind_l H; clear H
 obtain ⟨q58, hl66, HK56⟩ := hb
 refine GoC.blockJ [(0, slD gain), (1, slD rest), (2, slD price), (10, .v (.int .i64 r6)), (16, .v (.int .i64 x39)), (116, .v (.int .i64 ((gain.length : Nat) : Int))), (117, .v (.int .i64 ((k54 : Nat) : Int)))] [.one β5 3 1 (row r4)] (fun v h => q58 = .go () ∧ v = [] ∧ h = []) ?_ ?_
 refine GoC.loopJ [(0, _), (1, _), (2, _), (10, _), (16, _), (18, _), (116, _), (117, _), (121, _)] [.one β5 3 1 (row r4)] (fun mQ v h => ∃ (k59 : Nat), (k59 + mQ = gain.length ∧ forC (weirkeep_AssignDual_B4 gain rest price k54) mQ k59 () = some q58) ∧ v = [(122, .v (.int .i64 ((k59 : Nat) : Int)))] ∧ h = []) gain.length ⟨_, ⟨by omega, hl66⟩, rfl, rfl⟩ (EnvD.eq rfl (EnvD.eq rfl (EnvD.eq rfl (EnvD.eq rfl (EnvD.eq rfl (EnvD.eq rfl (EnvD.eq rfl (EnvD.eq rfl (EnvD.eq rfl (EnvD.eq rfl (EnvD.nil))))))))))) (TkD.cons _ _ _ _ _ Rem.p0 (HLe.refl _) (TkD.nil _)) ?_
 rintro m60 v h ⟨k59, ⟨hkk59, hF57⟩, rfl, rfl⟩
 refine GoC.seq ?_
 refine GoC.region ?_
 refine GoO.pure (ps_lss rfl rfl rfl) ?_
 refine GoO.nil ?_
 refine GoK.code ?_
 refine GoC.seq ?_
 refine GoC.condD rfl (fun (hk59 : (k59 : Int) < ((gain.length : Nat) : Int)) => ?_) (fun (hk59 : ¬ (k59 : Int) < ((gain.length : Nat) : Int)) => ?_)
 obtain ⟨m60', rfl⟩ : ∃ x, m60 = x + 1 := ⟨m60 - 1, by omega⟩
 have hb := bind_l hF57; clear hF57
 obtain ⟨qrm60, H, hF57⟩ := hb
 have hnk59 : k59 < gain.length := by omega
 have hIk59 : InI ((k59 : Int) + 1) := inI_len hk59 ml12
 refine GoC.skip ?_
 refine GoK.code ?_
 refine GoC.seq ?_
 refine GoC.block ?_
 refine GoC.seq ?_
 refine GoC.region ?_
 refine GoO.pure (ps_move rfl rfl) ?_
 refine GoO.pure (ps_assign rfl rfl) ?_
 refine GoO.nil ?_
 refine GoK.code ?_
 refine GoC.seq ?_
 refine GoC.drawA (.q 0 (.q 1 (.q 2 (.q 3 (.q 4 (.q 5 (.q 6 (.q 7 (.q 8 (.q 9 (.q 10 (.q 11 (.q 12 (.q 13 (.q 14 (.q 15 (.q 16 (.done)))))))))))))))))) follows (by kernel_rfl) ?_
 refine GoP.qN rfl (ps_move rfl rfl) ?_
 refine GoP.qN rfl (ps_move rfl rfl) ?_
 have c61 := ck_l H; replace H := ck_r H
 refine GoP.qN rfl (ps_indexAddrRN rfl rfl c61 rfl) ?_
 refine GoP.qN rfl (ps_loadR rfl c61 rfl rfl) ?_
 refine GoP.qN rfl (ps_move rfl rfl) ?_
 refine GoP.qN rfl (ps_move rfl rfl) ?_
 have c62 := ck_l H; replace H := ck_r H
 refine GoP.qN rfl (ps_indexAddrRN rfl rfl c62 rfl) ?_
 refine GoP.qN rfl (ps_loadR rfl c62 rfl rfl) ?_
 have c63 := ck_l H; replace H := ck_r H
 refine GoP.qN rfl (ps_add rfl rfl rfl c63) ?_
 refine GoP.qN rfl (ps_move rfl rfl) ?_
 refine GoP.qN rfl (ps_move rfl rfl) ?_
 refine GoP.qN rfl (ps_indexAddrRN rfl rfl hnk54 rfl) ?_
 refine GoP.qN rfl (ps_loadR rfl hnk54 rfl rfl) ?_
 refine GoP.qN rfl (ps_move rfl rfl) ?_
 have c64 := ck_l H; replace H := ck_r H
 refine GoP.qN rfl (ps_indexAddrRN rfl rfl c64 rfl) ?_
 refine GoP.qN rfl (ps_loadR rfl c64 rfl rfl) ?_
 refine GoP.qN rfl (ps_lss rfl rfl rfl) ?_
 refine GoP.done ?_
 refine GoK.code ?_
 refine GoC.condD rfl (fun h65 => ?_) (fun h65 => ?_)
 replace H := ite_t h65 H
 refine GoC.seq ?_
 refine GoC.region ?_
 refine GoO.pure (ps_assign rfl rfl) ?_
 refine GoO.nil ?_
 refine GoK.code ?_
 obtain rfl := Option.some.inj H
 obtain rfl := Option.some.inj hF57
 obtain rfl := Option.some.inj HK56
 obtain rfl := Option.some.inj hF52
 obtain rfl := Option.some.inj HK51
 exact GoC.retL (ds := [.v (.bool true)]) Try.results8 (ResL.cons (ResD.tmp rfl) (ResL.nil)) (Take.nil _) ⟨rfl, rfl⟩
 replace H := ite_f h65 H
 refine GoC.skip ?_
 refine GoK.blk ?_
 refine GoK.code ?_
 refine GoC.region ?_
 refine GoO.pure (ps_add rfl rfl rfl hIk59) ?_
 refine GoO.pure (ps_move rfl rfl) ?_
 refine GoO.nil ?_
 obtain rfl := Option.some.inj H
 exact GoK.againJ m60' (by omega) ⟨_, ⟨by omega, hF57⟩, rfl, rfl⟩ (EnvD.eq rfl (EnvD.eq rfl (EnvD.eq rfl (EnvD.eq rfl (EnvD.eq rfl (EnvD.eq rfl (EnvD.eq rfl (EnvD.eq rfl (EnvD.eq rfl (EnvD.eq rfl (EnvD.nil))))))))))) (TkD.cons _ _ _ _ _ Rem.p0 (HLe.refl _) (TkD.nil _))
 obtain rfl : m60 = 0 := by omega
 refine GoC.exit rfl ?_
 cases hF57
 exact GoK.meet ⟨rfl, rfl, rfl⟩ (EnvD.eq rfl (EnvD.eq rfl (EnvD.eq rfl (EnvD.eq rfl (EnvD.eq rfl (EnvD.eq rfl (EnvD.eq rfl (EnvD.nil)))))))) (TkD.cons _ _ _ _ _ Rem.p0 (HLe.refl _) (TkD.nil _))
 rintro v h ⟨rfl, rfl, rfl⟩
 have H := HK56; clear HK56
 refine GoK.blk ?_
 refine GoK.code ?_
 refine GoC.region ?_
 refine GoO.pure (ps_add rfl rfl rfl hIk54) ?_
 refine GoO.pure (ps_move rfl rfl) ?_
 refine GoO.nil ?_
 obtain rfl := Option.some.inj H
 exact GoK.againJ m55' (by omega) ⟨_, ⟨by omega, hF52⟩, rfl, rfl⟩ (EnvD.eq rfl (EnvD.eq rfl (EnvD.eq rfl (EnvD.eq rfl (EnvD.eq rfl (EnvD.eq rfl (EnvD.eq rfl (EnvD.nil)))))))) (TkD.cons _ _ _ _ _ Rem.p0 (HLe.refl _) (TkD.nil _))
 obtain rfl : m55 = 0 := by omega
 refine GoC.exit rfl ?_
 cases hF52
 exact GoK.meet ⟨rfl, rfl, rfl⟩ (EnvD.eq rfl (EnvD.eq rfl (EnvD.nil))) (TkD.cons _ _ _ _ _ Rem.p0 (HLe.refl _) (TkD.nil _))
 rintro v h ⟨rfl, rfl, rfl⟩
 have H := HK51; clear HK51
 refine GoK.code ?_
 refine GoC.seq ?_
 refine GoC.region ?_
 refine GoO.pure (ps_move rfl rfl) ?_
 refine GoO.pure (ps_move rfl rfl) ?_
 refine GoO.pure (ps_leq rfl rfl rfl) ?_
 refine GoO.pure (ps_assign rfl rfl) ?_
 refine GoO.nil ?_
 refine GoK.code ?_
 obtain rfl := Option.some.inj H
 exact GoC.retL (ds := [.v (.bool (decide (r6 ≤ x39)))]) Try.results8 (ResL.cons (ResD.tmp rfl) (ResL.nil)) (Take.nil _) ⟨rfl, rfl⟩
 replace H := ite_t h32 H
 refine GoO.guardF rfl rfl rfl rfl ?_
 refine GoO.guardF rfl rfl rfl rfl ?_
 refine GoO.guardF rfl rfl rfl rfl ?_
 refine GoO.pure (ps_pickT rfl rfl rfl) ?_
 refine GoO.nil ?_
 refine GoK.code ?_
 refine GoC.condT rfl ?_
 refine GoC.seq ?_
 refine GoC.region ?_
 refine GoO.pure (ps_assign rfl rfl) ?_
 refine GoO.nil ?_
 refine GoK.code ?_
 obtain rfl := Option.some.inj H
 exact GoC.retL (ds := [.v (.bool true)]) Try.results8 (ResL.cons (ResD.tmp rfl) (ResL.nil)) (Take.nil _) ⟨rfl, rfl⟩

end Go.Proofs.Ytkpdkigkhbkfiaa
