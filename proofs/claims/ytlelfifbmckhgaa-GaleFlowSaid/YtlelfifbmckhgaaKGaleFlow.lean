/- The functions weirkeep.GaleFlow, told as plain functions, and that the code does as they say. -/
import Derived.Test.YtlelfifbmckhgaaTys
import Derived.Test.YtlelfifbmckhgaaDat
import Derived.Test.YtlelfifbmckhgaaGgale
import Derived.Test.YtlelfifbmckhgaaGkeep
import Derived.Test.YtlelfifbmckhgaaGmost
namespace Go.Proofs.Ytlelfifbmckhgaa
open Go Go.Proofs.Ytlelfifbmckhgaa.Sx
set_option linter.unusedVariables false
set_option linter.unusedSimpArgs false
def weirkeep_GaleFlow_B2 (rows : (List Int)) (k40 : Nat) : Nat → (List Arc) → Option ((List Arc)) := fun k51 l46 =>
 ck (InI (((rows.length : Nat) : Int) + ((k51 : Nat) : Int))) <|
 ck (l46.length + 1 ≤ 5864062014805) <|
 some (l46 ++ ([(⟨((k40 : Nat) : Int), (((rows.length + k51) : Nat) : Int), 1⟩ : Arc)] : List Arc))
def weirkeep_GaleFlow_B1 (rows : (List Int)) (cols : (List Int)) : Nat → (List Arc) → Option ((List Arc)) := fun k40 l35 =>
 ck (l35.length + 1 ≤ 5864062014805) <|
 (forN (weirkeep_GaleFlow_B2 rows k40) cols.length 0 (l35 ++ ([(⟨(((rows.length + cols.length) : Nat) : Int), ((k40 : Nat) : Int), (rows.getD k40 (0 : Int))⟩ : Arc)] : List Arc))).bind fun l50 =>
 some l50
def weirkeep_GaleFlow_B3 (rows : (List Int)) (cols : (List Int)) : Nat → (List Arc) → Option ((List Arc)) := fun k65 l60 =>
 ck (InI (((rows.length : Nat) : Int) + ((k65 : Nat) : Int))) <|
 ck (l60.length + 1 ≤ 5864062014805) <|
 some (l60 ++ ([(⟨(((rows.length + k65) : Nat) : Int), ((((rows.length + cols.length) + 1) : Nat) : Int), (cols.getD k65 (0 : Int))⟩ : Arc)] : List Arc))
def weirkeep_GaleFlow_F (rows : (List Int)) (cols : (List Int)) : Option (Bool) :=
 (weirkeep_gales_F).bind fun r1 =>
 if (!r1) = true then
  some false
 else
  (gale_Make_F rows cols).bind fun (r4, r6) =>
  ((
   if r6 ≠ 0 then
    if r6 ≠ 5 then
     some (.ret true)
    else
     ck (InI (((rows.length : Nat) : Int) + ((cols.length : Nat) : Int))) <|
     if 10 < (((rows.length + cols.length) : Nat) : Int) then
      some (.ret true)
     else
      ck (InI (((rows.length : Nat) : Int) * ((cols.length : Nat) : Int))) <|
      ck (InI ((((rows.length : Nat) : Int) * ((cols.length : Nat) : Int)) + ((rows.length : Nat) : Int))) <|
      ck (InI (((((rows.length : Nat) : Int) * ((cols.length : Nat) : Int)) + ((rows.length : Nat) : Int)) + ((cols.length : Nat) : Int))) <|
      if 60 < (((((rows.length : Nat) : Int) * ((cols.length : Nat) : Int)) + ((rows.length : Nat) : Int)) + ((cols.length : Nat) : Int)) then
       some (.ret true)
      else
       some (.go ())
   else
    ck (InI (((rows.length : Nat) : Int) + ((cols.length : Nat) : Int))) <|
    if 10 < (((rows.length + cols.length) : Nat) : Int) then
     some (.ret true)
    else
     ck (InI (((rows.length : Nat) : Int) * ((cols.length : Nat) : Int))) <|
     ck (InI ((((rows.length : Nat) : Int) * ((cols.length : Nat) : Int)) + ((rows.length : Nat) : Int))) <|
     ck (InI (((((rows.length : Nat) : Int) * ((cols.length : Nat) : Int)) + ((rows.length : Nat) : Int)) + ((cols.length : Nat) : Int))) <|
     if 60 < (((((rows.length : Nat) : Int) * ((cols.length : Nat) : Int)) + ((rows.length : Nat) : Int)) + ((cols.length : Nat) : Int)) then
      some (.ret true)
     else
      some (.go ())) : Option (Ex (Unit) (Bool))).bind fun q => match q with
  | .go () =>
   ck (InI (((rows.length : Nat) : Int) + ((cols.length : Nat) : Int))) <|
   ck (InI ((((rows.length + cols.length) : Nat) : Int) + 2)) <|
   ck (InI ((((rows.length + cols.length) : Nat) : Int) + 1)) <|
   (forN (weirkeep_GaleFlow_B1 rows cols) rows.length 0 []).bind fun l39 =>
   (forN (weirkeep_GaleFlow_B3 rows cols) cols.length 0 l39).bind fun l64 =>
   (most_Of_F (⟨((((rows.length + cols.length) + 2) : Nat) : Int), (((rows.length + cols.length) : Nat) : Int), ((((rows.length + cols.length) + 1) : Nat) : Int), l64⟩ : Net)).bind fun (r72, r74, r75) =>
   if r75 = 0 then
    (weirkeep_sum_F rows).bind fun r78 =>
    if r74 = r78 then
     (weirkeep_sum_F cols).bind fun r81 =>
     some (decide ((decide (r6 = 0)) = (decide (r74 = r81))))
    else
     some (decide ((decide (r6 = 0)) = false))
   else
    some false
  | .ret x => some x
def weirkeep_GaleFlow_P (out : Bool) (d : D) (H : List HL) : Prop := d = .v (.bool out) ∧ H = []
theorem weirkeep_GaleFlow_I (out : Bool) : IndepP (weirkeep_GaleFlow_P out) := IndepP.of (by rintro _ _ ⟨rfl, rfl⟩; exact ⟨inferInstance, inferInstance⟩)
set_option maxRecDepth 100000 in
set_option maxHeartbeats 4000000 in
theorem weirkeep_GaleFlow_spec (rows : (List Int)) (cols : (List Int)) {out : Bool} (H : weirkeep_GaleFlow_F rows cols = some out) : Does Try.prog 13 [slD rows, slD cols] [] (weirkeep_GaleFlow_P out) := by
 unfold weirkeep_GaleFlow_F at H
 refine Does.intro Try.func13 rfl Try.ntmps13 rfl fun w0 I0 => ?_
 refine GoC.seq ?_
 refine GoC.region ?_
 refine GoO.pure (ps_assign rfl rfl) ?_
 refine GoO.nil ?_
 refine GoK.code ?_
 refine GoC.seq ?_
 refine GoC.seq ?_
 refine GoC.region ?_
 have hb := bind_l H; clear H
 obtain ⟨r1, e2, H⟩ := hb
 refine GoO.effC (ef_call rfl (Take.nil _) (Take.nil _) (weirkeep_gales_spec e2) (LendL.nil) rfl (weirkeep_gales_I (r1))) (fun rr HH hp => ?_)
 obtain ⟨rfl, rfl⟩ := hp
 refine GoO.pure (ps_not rfl rfl) ?_
 refine GoO.nil ?_
 refine GoK.code ?_
 refine GoC.cond rfl (fun h3 => ?_) (fun h3 => ?_)
 replace H := itb_t h3 H
 refine GoC.seq ?_
 refine GoC.region ?_
 refine GoO.pure (ps_assign rfl rfl) ?_
 refine GoO.nil ?_
 refine GoK.code ?_
 obtain rfl := Option.some.inj H
 exact GoC.retL (ds := [.v (.bool false)]) Try.results13 (ResL.cons (ResD.tmp rfl) (ResL.nil)) (Take.nil _) ⟨rfl, rfl⟩
 replace H := itb_f h3 H
 refine GoC.skip ?_
 refine GoK.code ?_
 refine GoC.seq ?_
 refine GoC.region ?_
 refine GoO.pure (ps_move rfl rfl) ?_
 refine GoO.pure (ps_move rfl rfl) ?_
 have hb := bind_l H; clear H
 obtain ⟨⟨r4, r6⟩, e7, H⟩ := hb
 refine GoO.effC (ef_call rfl (Take.nil _) (Take.nil _) (gale_Make_spec rows cols e7) (LendL.cons (Lend.refl _ _) (LendL.cons (Lend.refl _ _) (LendL.nil))) rfl (gale_Make_I (r4, r6))) (fun rr HH hp => ?_)
 obtain ⟨β5, rfl, rfl⟩ := hp
 refine GoO.pure (ps_move rfl rfl) ?_
 refine GoO.pure (ps_extract rfl rfl rfl) ?_
 refine GoO.pure (ps_extract rfl rfl rfl) ?_
 refine GoO.pure (ps_assign rfl rfl) ?_
 refine GoO.pure (ps_assign rfl rfl) ?_
 refine GoO.nil ?_
 refine GoK.code ?_
 have hb := bind_l H; clear H
 obtain ⟨q9, H, HK8⟩ := hb
 refine GoC.seqJ [(0, slD rows), (1, slD cols), (6, .v (.int .i64 r6))] [.one β5 24 1 (row r4)] (fun v h => q9 = .go () ∧ v = [] ∧ h = []) ?_ ?_
 refine GoC.seq ?_
 refine GoC.region ?_
 refine GoO.pure (ps_move rfl rfl) ?_
 refine GoO.pure (ps_neq rfl rfl rfl) ?_
 refine GoO.pure (ps_move rfl rfl) ?_
 refine GoO.guardD rfl rfl rfl rfl (fun h10 => ?_) (fun h10 => ?_)
 replace H := ite_t h10 H
 refine GoO.pure (ps_move rfl rfl) ?_
 refine GoO.guardT rfl rfl rfl ?_
 refine GoO.pure (ps_neq rfl rfl rfl) ?_
 refine GoO.pure (ps_pickT rfl rfl rfl) ?_
 refine GoO.pure (ps_move rfl rfl) ?_
 refine GoO.guardE rfl rfl rfl rfl (fun h11 => ?_) (fun h11 => ?_)
 replace H := ite_f h11 H
 refine GoO.pure (ps_move rfl rfl) ?_
 refine GoO.guardT rfl rfl rfl ?_
 refine GoO.pure (ps_len rfl (by constructor) rfl) ?_
 refine GoO.lenLe (n := rows.length) (x := .tmp 33) rfl (by constructor) sl_lenLe (fun ml12 => ?_)
 refine GoO.guardT rfl rfl rfl ?_
 refine GoO.pure (ps_move rfl rfl) ?_
 refine GoO.guardT rfl rfl rfl ?_
 refine GoO.pure (ps_len rfl (by constructor) rfl) ?_
 refine GoO.lenLe (n := cols.length) (x := .tmp 35) rfl (by constructor) sl_lenLe (fun ml13 => ?_)
 refine GoO.guardT rfl rfl rfl ?_
 have c14 := ck_l H; replace H := ck_r H
 refine GoO.pure (ps_add rfl rfl rfl c14) ?_
 refine GoO.guardT rfl rfl rfl ?_
 refine GoO.pure (ps_gtr rfl rfl rfl) ?_
 refine GoO.pure (ps_pickF rfl rfl rfl) ?_
 refine GoO.pure (ps_move rfl rfl) ?_
 refine GoO.guardE rfl rfl rfl rfl (fun h15 => ?_) (fun h15 => ?_)
 replace H := ite_f h15 H
 refine GoO.pure (ps_move rfl rfl) ?_
 refine GoO.guardT rfl rfl rfl ?_
 refine GoO.pure (ps_len rfl (by constructor) rfl) ?_
 refine GoO.guardT rfl rfl rfl ?_
 refine GoO.pure (ps_move rfl rfl) ?_
 refine GoO.guardT rfl rfl rfl ?_
 refine GoO.pure (ps_len rfl (by constructor) rfl) ?_
 refine GoO.guardT rfl rfl rfl ?_
 have c16 := ck_l H; replace H := ck_r H
 refine GoO.pure (ps_mul rfl rfl rfl c16) ?_
 refine GoO.guardT rfl rfl rfl ?_
 refine GoO.pure (ps_move rfl rfl) ?_
 refine GoO.guardT rfl rfl rfl ?_
 refine GoO.pure (ps_len rfl (by constructor) rfl) ?_
 refine GoO.guardT rfl rfl rfl ?_
 have c17 := ck_l H; replace H := ck_r H
 refine GoO.pure (ps_add rfl rfl rfl c17) ?_
 refine GoO.guardT rfl rfl rfl ?_
 refine GoO.pure (ps_move rfl rfl) ?_
 refine GoO.guardT rfl rfl rfl ?_
 refine GoO.pure (ps_len rfl (by constructor) rfl) ?_
 refine GoO.guardT rfl rfl rfl ?_
 have c18 := ck_l H; replace H := ck_r H
 refine GoO.pure (ps_add rfl rfl rfl c18) ?_
 refine GoO.guardT rfl rfl rfl ?_
 refine GoO.pure (ps_gtr rfl rfl rfl) ?_
 refine GoO.pure (ps_pickF rfl rfl rfl) ?_
 refine GoO.nil ?_
 refine GoK.code ?_
 refine GoC.condD rfl (fun h19 => ?_) (fun h19 => ?_)
 replace H := ite_t h19 H
 refine GoC.seq ?_
 refine GoC.region ?_
 refine GoO.pure (ps_assign rfl rfl) ?_
 refine GoO.nil ?_
 refine GoK.code ?_
 obtain rfl := Option.some.inj H
 obtain rfl := Option.some.inj HK8
 exact GoC.retL (ds := [.v (.bool true)]) Try.results13 (ResL.cons (ResD.tmp rfl) (ResL.nil)) (Take.nil _) ⟨rfl, rfl⟩
 replace H := ite_f h19 H
 refine GoC.skip ?_
 obtain rfl := Option.some.inj H
 exact GoK.meet ⟨rfl, rfl, rfl⟩ (EnvD.eq rfl (EnvD.eq rfl (EnvD.eq rfl (EnvD.nil)))) (TkD.cons _ _ _ _ _ Rem.p0 (HLe.refl _) (TkD.nil _))
 replace H := ite_t h15 H
 refine GoO.guardF rfl rfl rfl rfl ?_
 refine GoO.guardF rfl rfl rfl rfl ?_
 refine GoO.guardF rfl rfl rfl rfl ?_
 refine GoO.guardF rfl rfl rfl rfl ?_
 refine GoO.guardF rfl rfl rfl rfl ?_
 refine GoO.guardF rfl rfl rfl rfl ?_
 refine GoO.guardF rfl rfl rfl rfl ?_
 refine GoO.guardF rfl rfl rfl rfl ?_
 refine GoO.guardF rfl rfl rfl rfl ?_
 refine GoO.guardF rfl rfl rfl rfl ?_
 refine GoO.guardF rfl rfl rfl rfl ?_
 refine GoO.pure (ps_pickT rfl rfl rfl) ?_
 refine GoO.nil ?_
 refine GoK.code ?_
 refine GoC.condT rfl ?_
 refine GoC.seq ?_
 refine GoC.region ?_
 refine GoO.pure (ps_assign rfl rfl) ?_
 refine GoO.nil ?_
 refine GoK.code ?_
 obtain rfl := Option.some.inj H
 obtain rfl := Option.some.inj HK8
 exact GoC.retL (ds := [.v (.bool true)]) Try.results13 (ResL.cons (ResD.tmp rfl) (ResL.nil)) (Take.nil _) ⟨rfl, rfl⟩
 replace H := ite_t h11 H
 refine GoO.guardF rfl rfl rfl rfl ?_
 refine GoO.guardF rfl rfl rfl rfl ?_
 refine GoO.guardF rfl rfl rfl rfl ?_
 refine GoO.guardF rfl rfl rfl rfl ?_
 refine GoO.guardF rfl rfl rfl rfl ?_
 refine GoO.pure (ps_pickT rfl rfl rfl) ?_
 refine GoO.pure (ps_move rfl rfl) ?_
 refine GoO.guardF rfl rfl rfl rfl ?_
 refine GoO.guardF rfl rfl rfl rfl ?_
 refine GoO.guardF rfl rfl rfl rfl ?_
 refine GoO.guardF rfl rfl rfl rfl ?_
 refine GoO.guardF rfl rfl rfl rfl ?_
 refine GoO.guardF rfl rfl rfl rfl ?_
 refine GoO.guardF rfl rfl rfl rfl ?_
 refine GoO.guardF rfl rfl rfl rfl ?_
 refine GoO.guardF rfl rfl rfl rfl ?_
 refine GoO.guardF rfl rfl rfl rfl ?_
 refine GoO.guardF rfl rfl rfl rfl ?_
 refine GoO.guardF rfl rfl rfl rfl ?_
 refine GoO.pure (ps_pickT rfl rfl rfl) ?_
 refine GoO.nil ?_
 refine GoK.code ?_
 refine GoC.condT rfl ?_
 refine GoC.seq ?_
 refine GoC.region ?_
 refine GoO.pure (ps_assign rfl rfl) ?_
 refine GoO.nil ?_
 refine GoK.code ?_
 obtain rfl := Option.some.inj H
 obtain rfl := Option.some.inj HK8
 exact GoC.retL (ds := [.v (.bool true)]) Try.results13 (ResL.cons (ResD.tmp rfl) (ResL.nil)) (Take.nil _) ⟨rfl, rfl⟩
 replace H := ite_f h10 H
 refine GoO.guardF rfl rfl rfl rfl ?_
 refine GoO.pure (ps_pickF rfl rfl rfl) ?_
 refine GoO.pure (ps_move rfl rfl) ?_
 refine GoO.guardT rfl rfl rfl ?_
 refine GoO.pure (ps_move rfl rfl) ?_
 refine GoO.guardT rfl rfl rfl ?_
 refine GoO.pure (ps_len rfl (by constructor) rfl) ?_
 refine GoO.lenLe (n := rows.length) (x := .tmp 33) rfl (by constructor) sl_lenLe (fun ml20 => ?_)
 refine GoO.guardT rfl rfl rfl ?_
 refine GoO.pure (ps_move rfl rfl) ?_
 refine GoO.guardT rfl rfl rfl ?_
 refine GoO.pure (ps_len rfl (by constructor) rfl) ?_
 refine GoO.lenLe (n := cols.length) (x := .tmp 35) rfl (by constructor) sl_lenLe (fun ml21 => ?_)
 refine GoO.guardT rfl rfl rfl ?_
 have c22 := ck_l H; replace H := ck_r H
 refine GoO.pure (ps_add rfl rfl rfl c22) ?_
 refine GoO.guardT rfl rfl rfl ?_
 refine GoO.pure (ps_gtr rfl rfl rfl) ?_
 refine GoO.pure (ps_pickF rfl rfl rfl) ?_
 refine GoO.pure (ps_move rfl rfl) ?_
 refine GoO.guardE rfl rfl rfl rfl (fun h23 => ?_) (fun h23 => ?_)
 replace H := ite_f h23 H
 refine GoO.pure (ps_move rfl rfl) ?_
 refine GoO.guardT rfl rfl rfl ?_
 refine GoO.pure (ps_len rfl (by constructor) rfl) ?_
 refine GoO.guardT rfl rfl rfl ?_
 refine GoO.pure (ps_move rfl rfl) ?_
 refine GoO.guardT rfl rfl rfl ?_
 refine GoO.pure (ps_len rfl (by constructor) rfl) ?_
 refine GoO.guardT rfl rfl rfl ?_
 have c24 := ck_l H; replace H := ck_r H
 refine GoO.pure (ps_mul rfl rfl rfl c24) ?_
 refine GoO.guardT rfl rfl rfl ?_
 refine GoO.pure (ps_move rfl rfl) ?_
 refine GoO.guardT rfl rfl rfl ?_
 refine GoO.pure (ps_len rfl (by constructor) rfl) ?_
 refine GoO.guardT rfl rfl rfl ?_
 have c25 := ck_l H; replace H := ck_r H
 refine GoO.pure (ps_add rfl rfl rfl c25) ?_
 refine GoO.guardT rfl rfl rfl ?_
 refine GoO.pure (ps_move rfl rfl) ?_
 refine GoO.guardT rfl rfl rfl ?_
 refine GoO.pure (ps_len rfl (by constructor) rfl) ?_
 refine GoO.guardT rfl rfl rfl ?_
 have c26 := ck_l H; replace H := ck_r H
 refine GoO.pure (ps_add rfl rfl rfl c26) ?_
 refine GoO.guardT rfl rfl rfl ?_
 refine GoO.pure (ps_gtr rfl rfl rfl) ?_
 refine GoO.pure (ps_pickF rfl rfl rfl) ?_
 refine GoO.nil ?_
 refine GoK.code ?_
 refine GoC.condD rfl (fun h27 => ?_) (fun h27 => ?_)
 replace H := ite_t h27 H
 refine GoC.seq ?_
 refine GoC.region ?_
 refine GoO.pure (ps_assign rfl rfl) ?_
 refine GoO.nil ?_
 refine GoK.code ?_
 obtain rfl := Option.some.inj H
 obtain rfl := Option.some.inj HK8
 exact GoC.retL (ds := [.v (.bool true)]) Try.results13 (ResL.cons (ResD.tmp rfl) (ResL.nil)) (Take.nil _) ⟨rfl, rfl⟩
 replace H := ite_f h27 H
 refine GoC.skip ?_
 obtain rfl := Option.some.inj H
 exact GoK.meet ⟨rfl, rfl, rfl⟩ (EnvD.eq rfl (EnvD.eq rfl (EnvD.eq rfl (EnvD.nil)))) (TkD.cons _ _ _ _ _ Rem.p0 (HLe.refl _) (TkD.nil _))
 replace H := ite_t h23 H
 refine GoO.guardF rfl rfl rfl rfl ?_
 refine GoO.guardF rfl rfl rfl rfl ?_
 refine GoO.guardF rfl rfl rfl rfl ?_
 refine GoO.guardF rfl rfl rfl rfl ?_
 refine GoO.guardF rfl rfl rfl rfl ?_
 refine GoO.guardF rfl rfl rfl rfl ?_
 refine GoO.guardF rfl rfl rfl rfl ?_
 refine GoO.guardF rfl rfl rfl rfl ?_
 refine GoO.guardF rfl rfl rfl rfl ?_
 refine GoO.guardF rfl rfl rfl rfl ?_
 refine GoO.guardF rfl rfl rfl rfl ?_
 refine GoO.pure (ps_pickT rfl rfl rfl) ?_
 refine GoO.nil ?_
 refine GoK.code ?_
 refine GoC.condT rfl ?_
 refine GoC.seq ?_
 refine GoC.region ?_
 refine GoO.pure (ps_assign rfl rfl) ?_
 refine GoO.nil ?_
 refine GoK.code ?_
 obtain rfl := Option.some.inj H
 obtain rfl := Option.some.inj HK8
 exact GoC.retL (ds := [.v (.bool true)]) Try.results13 (ResL.cons (ResD.tmp rfl) (ResL.nil)) (Take.nil _) ⟨rfl, rfl⟩
 rintro v h ⟨rfl, rfl, rfl⟩
 have H := HK8; clear HK8
 refine GoC.seq ?_
 refine GoC.region ?_
 refine GoO.pure (ps_move rfl rfl) ?_
 refine GoO.pure (ps_len rfl (by constructor) rfl) ?_
 refine GoO.lenLe (n := rows.length) (x := .tmp 54) rfl (by constructor) sl_lenLe (fun ml28 => ?_)
 refine GoO.pure (ps_move rfl rfl) ?_
 refine GoO.pure (ps_len rfl (by constructor) rfl) ?_
 refine GoO.lenLe (n := cols.length) (x := .tmp 56) rfl (by constructor) sl_lenLe (fun ml29 => ?_)
 refine GoO.pure (ps_assign rfl rfl) ?_
 refine GoO.pure (ps_assign rfl rfl) ?_
 refine GoO.nil ?_
 refine GoK.code ?_
 refine GoC.seq ?_
 refine GoC.region ?_
 refine GoO.pure (ps_move rfl rfl) ?_
 refine GoO.pure (ps_move rfl rfl) ?_
 have c30 := ck_l H; replace H := ck_r H
 refine GoO.pure (ps_add rfl rfl rfl c30) ?_
 have c31 := ck_l H; replace H := ck_r H
 refine GoO.pure (ps_add rfl rfl rfl c31) ?_
 refine GoO.pure (ps_move rfl rfl) ?_
 refine GoO.pure (ps_move rfl rfl) ?_
 refine GoO.pure (ps_add rfl rfl rfl c30) ?_
 refine GoO.pure (ps_move rfl rfl) ?_
 refine GoO.pure (ps_move rfl rfl) ?_
 refine GoO.pure (ps_add rfl rfl rfl c30) ?_
 have c32 := ck_l H; replace H := ck_r H
 refine GoO.pure (ps_add rfl rfl rfl c32) ?_
 refine GoO.pure (ps_build (Parts.cons _ _ _ _ _ _ _ _ FdP.of (Part.one _ rfl rfl) rfl rfl (Parts.cons _ _ _ _ _ _ _ _ FdP.of (Part.one _ rfl rfl) rfl rfl (Parts.cons _ _ _ _ _ _ _ _ FdP.of (Part.one _ rfl rfl) rfl rfl (Parts.nil _)))) rfl) ?_
 refine GoO.effB (ef_alloc rfl) (fun β33 => ?_)
 refine GoO.eff1 (ef_storeAg rfl rfl At.p0 upd_whole Nat.zero_lt_one rfl) ?_
 refine GoO.nil ?_
 refine GoK.code ?_
 refine GoC.seq ?_
 refine GoC.seq ?_
 refine GoC.region ?_
 refine GoO.pure (ps_move rfl rfl) ?_
 refine GoO.pure (ps_len rfl (by constructor) rfl) ?_
 refine GoO.pure (ps_move rfl rfl) ?_
 refine GoO.nil ?_
 refine GoK.code ?_
 have hb := bind_l H; clear H
 obtain ⟨l39, hl58, HK36⟩ := hb
 refine GoC.blockJ [(0, slD rows), (1, slD cols), (6, .v (.int .i64 r6)), (7, .v (.int .i64 ((rows.length : Nat) : Int))), (8, .v (.int .i64 ((cols.length : Nat) : Int)))] [.one β5 24 1 (row r4)] (fun v h => ∃ (β34 : BK), v = [(9, .ptr β33 4 0 0)] ∧ h = [.one β34 31 3 (row l39), .one β33 36 4 (st1 (nth [.v (.int .i64 ((((rows.length + cols.length) + 2) : Nat) : Int)), .v (.int .i64 (((rows.length + cols.length) : Nat) : Int)), .v (.int .i64 ((((rows.length + cols.length) + 1) : Nat) : Int)), .own β34 3 0 l39.length]))]) ?_ ?_
 refine GoC.loopJ [(0, _), (1, _), (6, _), (7, _), (8, _), (70, _), (71, _)] [.one β5 24 1 (row r4)] (fun m v h => ∃ (k40 : Nat) (l35 : (List Arc)) (β34 : BK), (k40 + m = rows.length ∧ forN (weirkeep_GaleFlow_B1 rows cols) m k40 l35 = some l39) ∧ v = [(72, .v (.int .i64 ((k40 : Nat) : Int))), (9, .ptr β33 4 0 0)] ∧ h = [.one β34 31 3 (row l35), .one β33 36 4 (st1 (nth [.v (.int .i64 ((((rows.length + cols.length) + 2) : Nat) : Int)), .v (.int .i64 (((rows.length + cols.length) : Nat) : Int)), .v (.int .i64 ((((rows.length + cols.length) + 1) : Nat) : Int)), .own β34 3 0 l35.length]))]) rows.length ⟨_, _, ⟨0, 0, 0⟩, ⟨by omega, hl58⟩, rfl, rfl⟩ (EnvD.eq rfl (EnvD.eq rfl (EnvD.eq rfl (EnvD.eq rfl (EnvD.eq rfl (EnvD.eq rfl (EnvD.eq rfl (EnvD.eq rfl (EnvD.eq rfl (EnvD.nil)))))))))) (TkD.no _ _ _ _ _ rfl (TkD.cons _ _ _ _ _ Rem.p0 (HLe.st ⟨⟨⟨⟨trivial, DLe.refl _⟩, DLe.refl _⟩, DLe.refl _⟩, DLe.nilOwn⟩) (TkD.cons _ _ _ _ _ Rem.p0 (HLe.refl _) (TkD.nil _)))) ?_
 rintro m41 v h ⟨k40, l35, β34, ⟨hkk40, hF37⟩, rfl, rfl⟩
 refine GoC.seq ?_
 refine GoC.region ?_
 refine GoO.pure (ps_lss rfl rfl rfl) ?_
 refine GoO.nil ?_
 refine GoK.code ?_
 refine GoC.seq ?_
 refine GoC.condD rfl (fun (hk40 : (k40 : Int) < ((rows.length : Nat) : Int)) => ?_) (fun (hk40 : ¬ (k40 : Int) < ((rows.length : Nat) : Int)) => ?_)
 obtain ⟨m41', rfl⟩ : ∃ x, m41 = x + 1 := ⟨m41 - 1, by omega⟩
 have hb := bind_l hF37; clear hF37
 obtain ⟨qrm41, H, hF37⟩ := hb
 have hnk40 : k40 < rows.length := by omega
 have hIk40 : InI ((k40 : Int) + 1) := inI_len hk40 ml28
 refine GoC.skip ?_
 refine GoK.code ?_
 refine GoC.seq ?_
 refine GoC.block ?_
 refine GoC.seq ?_
 refine GoC.region ?_
 refine GoO.pure (ps_move rfl rfl) ?_
 refine GoO.pure (ps_indexAddrRN rfl rfl hnk40 rfl) ?_
 refine GoO.pure (ps_loadR rfl hnk40 rfl rfl) ?_
 refine GoO.pure (ps_assign rfl rfl) ?_
 refine GoO.pure (ps_assign rfl rfl) ?_
 refine GoO.nil ?_
 refine GoK.code ?_
 refine GoC.seq ?_
 refine GoC.region ?_
 refine GoO.pure (ps_fieldAddr rfl rfl) ?_
 refine GoO.pure (ps_load rfl At.p1 At.p1 Nat.zero_lt_one rfl rfl) ?_
 refine GoO.pure (ps_move rfl rfl) ?_
 refine GoO.pure (ps_move rfl rfl) ?_
 refine GoO.pure (ps_add rfl rfl rfl c30) ?_
 refine GoO.pure (ps_move rfl rfl) ?_
 refine GoO.pure (ps_move rfl rfl) ?_
 refine GoO.pure (ps_build (Parts.cons _ _ _ _ _ _ _ _ FdP.of (Part.one _ rfl rfl) rfl rfl (Parts.cons _ _ _ _ _ _ _ _ FdP.of (Part.one _ rfl rfl) rfl rfl (Parts.cons _ _ _ _ _ _ _ _ FdP.of (Part.one _ rfl rfl) rfl rfl (Parts.nil _)))) rfl) ?_
 refine GoO.effB (ef_buildSlice (row ([(⟨(((rows.length + cols.length) : Nat) : Int), ((k40 : Nat) : Int), (rows.getD k40 (0 : Int))⟩ : Arc)] : List Arc)) rfl (Parts.cons _ _ _ _ _ _ _ _ ⟨rfl, rfl⟩ (Part.ag _ _ rfl) rfl rfl (Parts.nil _)) rfl rfl rfl rfl) (fun β42 => ?_)
 have c44 := ck_l H; replace H := ck_r H
 refine GoO.effB (ef_append rfl rfl Rem.p1 (Src.own At.p0 (by first | omega | (simp only [subl_length, cpl_length, List.length_set, List.length_append, List.length_cons, List.length_nil, List.length_replicate, row_len]; omega) | (simp only [subl_length, cpl_length, List.length_set, List.length_append, List.length_cons, List.length_nil, List.length_replicate, row_len]; done))) (cat_row (α := Arc) (by first | rfl | omega | (simp only [subl_length, cpl_length, List.length_set, List.length_append, List.length_cons, List.length_nil, List.length_replicate, row_len] <;> first | rfl | omega)) (by first | rfl | omega | (simp only [subl_length, cpl_length, List.length_set, List.length_append, List.length_cons, List.length_nil, List.length_replicate, row_len] <;> first | rfl | omega)) (fun _ _ _ _ => rfl)) (by first | omega | (simp only [subl_length, cpl_length, List.length_set, List.length_append, List.length_cons, List.length_nil, List.length_replicate, row_len]; omega) | (simp only [subl_length, cpl_length, List.length_set, List.length_append, List.length_cons, List.length_nil, List.length_replicate, row_len]; done)) (app_le c44 rfl) rfl rfl rfl) (fun β43 => ?_)
 refine GoO.pure (ps_fieldAddr rfl rfl) ?_
 refine GoO.eff1 (ef_store rfl rfl rfl At.p2 upd_st1 Nat.zero_lt_one rfl) ?_
 refine GoO.nil ?_
 refine GoK.code ?_
 refine GoC.seq ?_
 refine GoC.region ?_
 refine GoO.pure (ps_move rfl rfl) ?_
 refine GoO.pure (ps_len rfl (by constructor) rfl) ?_
 refine GoO.pure (ps_move rfl rfl) ?_
 refine GoO.nil ?_
 refine GoK.code ?_
 have hb := bind_l H; clear H
 obtain ⟨l50, hl57, HK47⟩ := hb
 refine GoC.blockJ [(0, slD rows), (1, slD cols), (6, .v (.int .i64 r6)), (7, .v (.int .i64 ((rows.length : Nat) : Int))), (8, .v (.int .i64 ((cols.length : Nat) : Int))), (70, slD rows), (71, .v (.int .i64 ((rows.length : Nat) : Int))), (72, .v (.int .i64 ((k40 : Nat) : Int)))] [.one β42 31 3 (row ([(⟨(((rows.length + cols.length) : Nat) : Int), ((k40 : Nat) : Int), (rows.getD k40 (0 : Int))⟩ : Arc)] : List Arc)), .one β5 24 1 (row r4)] (fun v h => ∃ (β45 : BK), v = [(9, .ptr β33 4 0 0)] ∧ h = [.one β45 31 3 (row l50), .one β33 36 4 (st1 (nth [.v (.int .i64 ((((rows.length + cols.length) + 2) : Nat) : Int)), .v (.int .i64 (((rows.length + cols.length) : Nat) : Int)), .v (.int .i64 ((((rows.length + cols.length) + 1) : Nat) : Int)), .own β45 3 0 l50.length]))]) ?_ ?_
 refine GoC.loopJ [(0, _), (1, _), (6, _), (7, _), (8, _), (10, _), (70, _), (71, _), (72, _), (89, _)] [.one β42 31 3 (row ([(⟨(((rows.length + cols.length) : Nat) : Int), ((k40 : Nat) : Int), (rows.getD k40 (0 : Int))⟩ : Arc)] : List Arc)), .one β5 24 1 (row r4)] (fun m v h => ∃ (k51 : Nat) (l46 : (List Arc)) (β45 : BK), (k51 + m = cols.length ∧ forN (weirkeep_GaleFlow_B2 rows k40) m k51 l46 = some l50) ∧ v = [(90, .v (.int .i64 ((k51 : Nat) : Int))), (9, .ptr β33 4 0 0)] ∧ h = [.one β45 31 3 (row l46), .one β33 36 4 (st1 (nth [.v (.int .i64 ((((rows.length + cols.length) + 2) : Nat) : Int)), .v (.int .i64 (((rows.length + cols.length) : Nat) : Int)), .v (.int .i64 ((((rows.length + cols.length) + 1) : Nat) : Int)), .own β45 3 0 l46.length]))]) cols.length ⟨_, _, β43, ⟨by omega, hl57⟩, rfl, rfl⟩ (EnvD.eq rfl (EnvD.eq rfl (EnvD.eq rfl (EnvD.eq rfl (EnvD.eq rfl (EnvD.eq rfl (EnvD.eq rfl (EnvD.eq rfl (EnvD.eq rfl (EnvD.eq rfl (EnvD.eq rfl (EnvD.eq rfl (EnvD.nil))))))))))))) (TkD.cons _ _ _ _ _ Rem.p0 (HLe.refl _) (TkD.cons _ _ _ _ _ Rem.p1 (HLe.st ⟨⟨⟨⟨trivial, DLe.refl _⟩, DLe.refl _⟩, DLe.refl _⟩, DLe.len (by first | rfl | omega | (simp only [row_len, List.length_append, List.length_cons, List.length_nil] <;> first | rfl | omega))⟩) (TkD.cons _ _ _ _ _ Rem.p0 (HLe.refl _) (TkD.cons _ _ _ _ _ Rem.p0 (HLe.refl _) (TkD.nil _))))) ?_
 rintro m52 v h ⟨k51, l46, β45, ⟨hkk51, hF48⟩, rfl, rfl⟩
 refine GoC.seq ?_
 refine GoC.region ?_
 refine GoO.pure (ps_lss rfl rfl rfl) ?_
 refine GoO.nil ?_
 refine GoK.code ?_
 refine GoC.seq ?_
 refine GoC.condD rfl (fun (hk51 : (k51 : Int) < ((cols.length : Nat) : Int)) => ?_) (fun (hk51 : ¬ (k51 : Int) < ((cols.length : Nat) : Int)) => ?_)
 obtain ⟨m52', rfl⟩ : ∃ x, m52 = x + 1 := ⟨m52 - 1, by omega⟩
 have hb := bind_l hF48; clear hF48
 obtain ⟨qrm52, H, hF48⟩ := hb
 have hnk51 : k51 < cols.length := by omega
 have hIk51 : InI ((k51 : Int) + 1) := inI_len hk51 ml29
 refine GoC.skip ?_
 refine GoK.code ?_
 refine GoC.seq ?_
 refine GoC.block ?_
 refine GoC.seq ?_
 refine GoC.region ?_
 refine GoO.pure (ps_move rfl rfl) ?_
 refine GoO.pure (ps_assign rfl rfl) ?_
 refine GoO.nil ?_
 refine GoK.code ?_
 refine GoC.region ?_
 refine GoO.pure (ps_fieldAddr rfl rfl) ?_
 refine GoO.pure (ps_load rfl At.p1 At.p1 Nat.zero_lt_one rfl rfl) ?_
 refine GoO.pure (ps_move rfl rfl) ?_
 refine GoO.pure (ps_move rfl rfl) ?_
 refine GoO.pure (ps_move rfl rfl) ?_
 have c53 := ck_l H; replace H := ck_r H
 refine GoO.pure (ps_add rfl rfl rfl c53) ?_
 refine GoO.pure (ps_build (Parts.cons _ _ _ _ _ _ _ _ FdP.of (Part.one _ rfl rfl) rfl rfl (Parts.cons _ _ _ _ _ _ _ _ FdP.of (Part.one _ rfl rfl) rfl rfl (Parts.cons _ _ _ _ _ _ _ _ FdP.of (Part.one _ rfl rfl) rfl rfl (Parts.nil _)))) rfl) ?_
 refine GoO.effB (ef_buildSlice (row ([(⟨((k40 : Nat) : Int), (((rows.length + k51) : Nat) : Int), 1⟩ : Arc)] : List Arc)) rfl (Parts.cons _ _ _ _ _ _ _ _ ⟨rfl, rfl⟩ (Part.ag _ _ rfl) rfl rfl (Parts.nil _)) rfl rfl rfl rfl) (fun β54 => ?_)
 have c56 := ck_l H; replace H := ck_r H
 refine GoO.effB (ef_append rfl rfl Rem.p1 (Src.own At.p0 (by first | omega | (simp only [subl_length, cpl_length, List.length_set, List.length_append, List.length_cons, List.length_nil, List.length_replicate, row_len]; omega) | (simp only [subl_length, cpl_length, List.length_set, List.length_append, List.length_cons, List.length_nil, List.length_replicate, row_len]; done))) (cat_row (α := Arc) (by first | rfl | omega | (simp only [subl_length, cpl_length, List.length_set, List.length_append, List.length_cons, List.length_nil, List.length_replicate, row_len] <;> first | rfl | omega)) (by first | rfl | omega | (simp only [subl_length, cpl_length, List.length_set, List.length_append, List.length_cons, List.length_nil, List.length_replicate, row_len] <;> first | rfl | omega)) (fun _ _ _ _ => rfl)) (by first | omega | (simp only [subl_length, cpl_length, List.length_set, List.length_append, List.length_cons, List.length_nil, List.length_replicate, row_len]; omega) | (simp only [subl_length, cpl_length, List.length_set, List.length_append, List.length_cons, List.length_nil, List.length_replicate, row_len]; done)) (app_le c56 rfl) rfl rfl rfl) (fun β55 => ?_)
 refine GoO.pure (ps_fieldAddr rfl rfl) ?_
 refine GoO.eff1 (ef_store rfl rfl rfl At.p2 upd_st1 Nat.zero_lt_one rfl) ?_
 refine GoO.nil ?_
 refine GoK.blk ?_
 refine GoK.code ?_
 refine GoC.region ?_
 refine GoO.pure (ps_add rfl rfl rfl hIk51) ?_
 refine GoO.pure (ps_move rfl rfl) ?_
 refine GoO.nil ?_
 obtain rfl := Option.some.inj H
 exact GoK.againJ m52' (by omega) ⟨_, _, β55, ⟨by omega, hF48⟩, rfl, rfl⟩ (EnvD.eq rfl (EnvD.eq rfl (EnvD.eq rfl (EnvD.eq rfl (EnvD.eq rfl (EnvD.eq rfl (EnvD.eq rfl (EnvD.eq rfl (EnvD.eq rfl (EnvD.eq rfl (EnvD.eq rfl (EnvD.eq rfl (EnvD.nil))))))))))))) (TkD.cons _ _ _ _ _ Rem.p0 (HLe.refl _) (TkD.cons _ _ _ _ _ Rem.p1 (HLe.st ⟨⟨⟨⟨trivial, DLe.refl _⟩, DLe.refl _⟩, DLe.refl _⟩, DLe.len (by first | rfl | omega | (simp only [row_len, List.length_append, List.length_cons, List.length_nil] <;> first | rfl | omega))⟩) (TkD.cons _ _ _ _ _ Rem.p1 (HLe.refl _) (TkD.cons _ _ _ _ _ Rem.p1 (HLe.refl _) (TkD.nil _)))))
 obtain rfl : m52 = 0 := by omega
 refine GoC.exit rfl ?_
 cases hF48
 exact GoK.meet ⟨β45, rfl, rfl⟩ (EnvD.eq rfl (EnvD.eq rfl (EnvD.eq rfl (EnvD.eq rfl (EnvD.eq rfl (EnvD.eq rfl (EnvD.eq rfl (EnvD.eq rfl (EnvD.eq rfl (EnvD.nil)))))))))) (TkD.cons _ _ _ _ _ Rem.p0 (HLe.refl _) (TkD.cons _ _ _ _ _ Rem.p0 (HLe.st ⟨⟨⟨⟨trivial, DLe.refl _⟩, DLe.refl _⟩, DLe.refl _⟩, DLe.len (by first | rfl | omega | (simp only [row_len] <;> first | rfl | omega))⟩) (TkD.cons _ _ _ _ _ Rem.p0 (HLe.refl _) (TkD.cons _ _ _ _ _ Rem.p0 (HLe.refl _) (TkD.nil _)))))
 rintro v h ⟨β45, rfl, rfl⟩
 have H := HK47; clear HK47
 refine GoK.blk ?_
 refine GoK.code ?_
 refine GoC.region ?_
 refine GoO.pure (ps_add rfl rfl rfl hIk40) ?_
 refine GoO.pure (ps_move rfl rfl) ?_
 refine GoO.nil ?_
 obtain rfl := Option.some.inj H
 exact GoK.againJ m41' (by omega) ⟨_, _, β45, ⟨by omega, hF37⟩, rfl, rfl⟩ (EnvD.eq rfl (EnvD.eq rfl (EnvD.eq rfl (EnvD.eq rfl (EnvD.eq rfl (EnvD.eq rfl (EnvD.eq rfl (EnvD.eq rfl (EnvD.eq rfl (EnvD.nil)))))))))) (TkD.cons _ _ _ _ _ Rem.p0 (HLe.refl _) (TkD.cons _ _ _ _ _ Rem.p0 (HLe.st ⟨⟨⟨⟨trivial, DLe.refl _⟩, DLe.refl _⟩, DLe.refl _⟩, DLe.len (by first | rfl | omega | (simp only [row_len] <;> first | rfl | omega))⟩) (TkD.cons _ _ _ _ _ Rem.p1 (HLe.refl _) (TkD.nil _))))
 obtain rfl : m41 = 0 := by omega
 refine GoC.exit rfl ?_
 cases hF37
 exact GoK.meet ⟨β34, rfl, rfl⟩ (EnvD.eq rfl (EnvD.eq rfl (EnvD.eq rfl (EnvD.eq rfl (EnvD.eq rfl (EnvD.eq rfl (EnvD.nil))))))) (TkD.cons _ _ _ _ _ Rem.p0 (HLe.refl _) (TkD.cons _ _ _ _ _ Rem.p0 (HLe.st ⟨⟨⟨⟨trivial, DLe.refl _⟩, DLe.refl _⟩, DLe.refl _⟩, DLe.len (by first | rfl | omega | (simp only [row_len] <;> first | rfl | omega))⟩) (TkD.cons _ _ _ _ _ Rem.p0 (HLe.refl _) (TkD.nil _))))
 rintro v h ⟨β34, rfl, rfl⟩
 have H := HK36; clear HK36
 refine GoK.code ?_
 refine GoC.seq ?_
 refine GoC.seq ?_
 refine GoC.region ?_
 refine GoO.pure (ps_move rfl rfl) ?_
 refine GoO.pure (ps_len rfl (by constructor) rfl) ?_
 refine GoO.pure (ps_move rfl rfl) ?_
 refine GoO.nil ?_
 refine GoK.code ?_
 have hb := bind_l H; clear H
 obtain ⟨l64, hl71, HK61⟩ := hb
 refine GoC.blockJ [(0, slD rows), (1, slD cols), (6, .v (.int .i64 r6))] [.one β5 24 1 (row r4)] (fun v h => ∃ (β59 : BK), v = [(9, .ptr β33 4 0 0)] ∧ h = [.one β59 31 3 (row l64), .one β33 36 4 (st1 (nth [.v (.int .i64 ((((rows.length + cols.length) + 2) : Nat) : Int)), .v (.int .i64 (((rows.length + cols.length) : Nat) : Int)), .v (.int .i64 ((((rows.length + cols.length) + 1) : Nat) : Int)), .own β59 3 0 l64.length]))]) ?_ ?_
 refine GoC.loopJ [(0, _), (1, _), (6, _), (7, _), (8, _), (105, _), (106, _)] [.one β5 24 1 (row r4)] (fun m v h => ∃ (k65 : Nat) (l60 : (List Arc)) (β59 : BK), (k65 + m = cols.length ∧ forN (weirkeep_GaleFlow_B3 rows cols) m k65 l60 = some l64) ∧ v = [(107, .v (.int .i64 ((k65 : Nat) : Int))), (9, .ptr β33 4 0 0)] ∧ h = [.one β59 31 3 (row l60), .one β33 36 4 (st1 (nth [.v (.int .i64 ((((rows.length + cols.length) + 2) : Nat) : Int)), .v (.int .i64 (((rows.length + cols.length) : Nat) : Int)), .v (.int .i64 ((((rows.length + cols.length) + 1) : Nat) : Int)), .own β59 3 0 l60.length]))]) cols.length ⟨_, _, β34, ⟨by omega, hl71⟩, rfl, rfl⟩ (EnvD.eq rfl (EnvD.eq rfl (EnvD.eq rfl (EnvD.eq rfl (EnvD.eq rfl (EnvD.eq rfl (EnvD.eq rfl (EnvD.eq rfl (EnvD.eq rfl (EnvD.nil)))))))))) (TkD.cons _ _ _ _ _ Rem.p0 (HLe.refl _) (TkD.cons _ _ _ _ _ Rem.p0 (HLe.st ⟨⟨⟨⟨trivial, DLe.refl _⟩, DLe.refl _⟩, DLe.refl _⟩, DLe.len (by first | rfl | omega | (simp only [row_len] <;> first | rfl | omega))⟩) (TkD.cons _ _ _ _ _ Rem.p0 (HLe.refl _) (TkD.nil _)))) ?_
 rintro m66 v h ⟨k65, l60, β59, ⟨hkk65, hF62⟩, rfl, rfl⟩
 refine GoC.seq ?_
 refine GoC.region ?_
 refine GoO.pure (ps_lss rfl rfl rfl) ?_
 refine GoO.nil ?_
 refine GoK.code ?_
 refine GoC.seq ?_
 refine GoC.condD rfl (fun (hk65 : (k65 : Int) < ((cols.length : Nat) : Int)) => ?_) (fun (hk65 : ¬ (k65 : Int) < ((cols.length : Nat) : Int)) => ?_)
 obtain ⟨m66', rfl⟩ : ∃ x, m66 = x + 1 := ⟨m66 - 1, by omega⟩
 have hb := bind_l hF62; clear hF62
 obtain ⟨qrm66, H, hF62⟩ := hb
 have hnk65 : k65 < cols.length := by omega
 have hIk65 : InI ((k65 : Int) + 1) := inI_len hk65 ml29
 refine GoC.skip ?_
 refine GoK.code ?_
 refine GoC.seq ?_
 refine GoC.block ?_
 refine GoC.seq ?_
 refine GoC.region ?_
 refine GoO.pure (ps_move rfl rfl) ?_
 refine GoO.pure (ps_indexAddrRN rfl rfl hnk65 rfl) ?_
 refine GoO.pure (ps_loadR rfl hnk65 rfl rfl) ?_
 refine GoO.pure (ps_assign rfl rfl) ?_
 refine GoO.pure (ps_assign rfl rfl) ?_
 refine GoO.nil ?_
 refine GoK.code ?_
 refine GoC.region ?_
 refine GoO.pure (ps_fieldAddr rfl rfl) ?_
 refine GoO.pure (ps_load rfl At.p1 At.p1 Nat.zero_lt_one rfl rfl) ?_
 refine GoO.pure (ps_move rfl rfl) ?_
 refine GoO.pure (ps_move rfl rfl) ?_
 have c67 := ck_l H; replace H := ck_r H
 refine GoO.pure (ps_add rfl rfl rfl c67) ?_
 refine GoO.pure (ps_move rfl rfl) ?_
 refine GoO.pure (ps_move rfl rfl) ?_
 refine GoO.pure (ps_add rfl rfl rfl c30) ?_
 refine GoO.pure (ps_add rfl rfl rfl c32) ?_
 refine GoO.pure (ps_move rfl rfl) ?_
 refine GoO.pure (ps_build (Parts.cons _ _ _ _ _ _ _ _ FdP.of (Part.one _ rfl rfl) rfl rfl (Parts.cons _ _ _ _ _ _ _ _ FdP.of (Part.one _ rfl rfl) rfl rfl (Parts.cons _ _ _ _ _ _ _ _ FdP.of (Part.one _ rfl rfl) rfl rfl (Parts.nil _)))) rfl) ?_
 refine GoO.effB (ef_buildSlice (row ([(⟨(((rows.length + k65) : Nat) : Int), ((((rows.length + cols.length) + 1) : Nat) : Int), (cols.getD k65 (0 : Int))⟩ : Arc)] : List Arc)) rfl (Parts.cons _ _ _ _ _ _ _ _ ⟨rfl, rfl⟩ (Part.ag _ _ rfl) rfl rfl (Parts.nil _)) rfl rfl rfl rfl) (fun β68 => ?_)
 have c70 := ck_l H; replace H := ck_r H
 refine GoO.effB (ef_append rfl rfl Rem.p1 (Src.own At.p0 (by first | omega | (simp only [subl_length, cpl_length, List.length_set, List.length_append, List.length_cons, List.length_nil, List.length_replicate, row_len]; omega) | (simp only [subl_length, cpl_length, List.length_set, List.length_append, List.length_cons, List.length_nil, List.length_replicate, row_len]; done))) (cat_row (α := Arc) (by first | rfl | omega | (simp only [subl_length, cpl_length, List.length_set, List.length_append, List.length_cons, List.length_nil, List.length_replicate, row_len] <;> first | rfl | omega)) (by first | rfl | omega | (simp only [subl_length, cpl_length, List.length_set, List.length_append, List.length_cons, List.length_nil, List.length_replicate, row_len] <;> first | rfl | omega)) (fun _ _ _ _ => rfl)) (by first | omega | (simp only [subl_length, cpl_length, List.length_set, List.length_append, List.length_cons, List.length_nil, List.length_replicate, row_len]; omega) | (simp only [subl_length, cpl_length, List.length_set, List.length_append, List.length_cons, List.length_nil, List.length_replicate, row_len]; done)) (app_le c70 rfl) rfl rfl rfl) (fun β69 => ?_)
 refine GoO.pure (ps_fieldAddr rfl rfl) ?_
 refine GoO.eff1 (ef_store rfl rfl rfl At.p2 upd_st1 Nat.zero_lt_one rfl) ?_
 refine GoO.nil ?_
 refine GoK.blk ?_
 refine GoK.code ?_
 refine GoC.region ?_
 refine GoO.pure (ps_add rfl rfl rfl hIk65) ?_
 refine GoO.pure (ps_move rfl rfl) ?_
 refine GoO.nil ?_
 obtain rfl := Option.some.inj H
 exact GoK.againJ m66' (by omega) ⟨_, _, β69, ⟨by omega, hF62⟩, rfl, rfl⟩ (EnvD.eq rfl (EnvD.eq rfl (EnvD.eq rfl (EnvD.eq rfl (EnvD.eq rfl (EnvD.eq rfl (EnvD.eq rfl (EnvD.eq rfl (EnvD.eq rfl (EnvD.nil)))))))))) (TkD.cons _ _ _ _ _ Rem.p0 (HLe.refl _) (TkD.cons _ _ _ _ _ Rem.p1 (HLe.st ⟨⟨⟨⟨trivial, DLe.refl _⟩, DLe.refl _⟩, DLe.refl _⟩, DLe.len (by first | rfl | omega | (simp only [row_len, List.length_append, List.length_cons, List.length_nil] <;> first | rfl | omega))⟩) (TkD.cons _ _ _ _ _ Rem.p1 (HLe.refl _) (TkD.nil _))))
 obtain rfl : m66 = 0 := by omega
 refine GoC.exit rfl ?_
 cases hF62
 exact GoK.meet ⟨β59, rfl, rfl⟩ (EnvD.eq rfl (EnvD.eq rfl (EnvD.eq rfl (EnvD.eq rfl (EnvD.nil))))) (TkD.cons _ _ _ _ _ Rem.p0 (HLe.refl _) (TkD.cons _ _ _ _ _ Rem.p0 (HLe.st ⟨⟨⟨⟨trivial, DLe.refl _⟩, DLe.refl _⟩, DLe.refl _⟩, DLe.len (by first | rfl | omega | (simp only [row_len] <;> first | rfl | omega))⟩) (TkD.cons _ _ _ _ _ Rem.p0 (HLe.refl _) (TkD.nil _))))
 rintro v h ⟨β59, rfl, rfl⟩
 have H := HK61; clear HK61
 refine GoK.code ?_
 refine GoC.seq ?_
 refine GoC.region ?_
 refine GoO.pure (ps_loadAg rfl At.p1 At.p1 Nat.zero_lt_one rfl rfl) ?_
 have hb := bind_l H; clear H
 obtain ⟨⟨r72, r74, r75⟩, e76, H⟩ := hb
 refine GoO.effC (ef_call rfl (Take.nil _) (Take.cons _ _ _ _ _ Rem.p0 (Take.nil _)) (most_Of_spec (⟨((((rows.length + cols.length) + 2) : Nat) : Int), (((rows.length + cols.length) : Nat) : Int), ((((rows.length + cols.length) + 1) : Nat) : Int), l64⟩ : Net) e76) (LendL.cons (Lend.agA ⟨⟨⟨⟨trivial, Lend.refl _ _⟩, Lend.refl _ _⟩, Lend.refl _ _⟩, Lend.all' At.p0 (by first | rfl | omega | (simp only [subl_length, cpl_length, List.length_set, List.length_append, List.length_cons, List.length_nil, List.length_replicate, row_len] <;> first | rfl | omega)) rfl⟩) (LendL.nil)) rfl (most_Of_I (r72, r74, r75))) (fun rr HH hp => ?_)
 obtain ⟨β73, rfl, rfl⟩ := hp
 refine GoO.pure (ps_move rfl rfl) ?_
 refine GoO.pure (ps_extract rfl rfl rfl) ?_
 refine GoO.pure (ps_extract rfl rfl rfl) ?_
 refine GoO.pure (ps_extract rfl rfl rfl) ?_
 refine GoO.pure (ps_assign rfl rfl) ?_
 refine GoO.pure (ps_assign rfl rfl) ?_
 refine GoO.pure (ps_assign rfl rfl) ?_
 refine GoO.nil ?_
 refine GoK.code ?_
 refine GoC.seq ?_
 refine GoC.region ?_
 refine GoO.pure (ps_move rfl rfl) ?_
 refine GoO.pure (ps_eql rfl rfl rfl) ?_
 refine GoO.pure (ps_move rfl rfl) ?_
 refine GoO.guardD rfl rfl rfl rfl (fun h77 => ?_) (fun h77 => ?_)
 replace H := ite_t h77 H
 refine GoO.pure (ps_move rfl rfl) ?_
 refine GoO.guardT rfl rfl rfl ?_
 refine GoO.pure (ps_eql rfl rfl rfl) ?_
 refine GoO.guardT rfl rfl rfl ?_
 refine GoO.pure (ps_move rfl rfl) ?_
 refine GoO.guardT rfl rfl rfl ?_
 refine GoO.pure (ps_move rfl rfl) ?_
 refine GoO.guardT rfl rfl rfl ?_
 have hb := bind_l H; clear H
 obtain ⟨r78, e79, H⟩ := hb
 refine GoO.effC (ef_call rfl (Take.nil _) (Take.nil _) (weirkeep_sum_spec rows e79) (LendL.cons (Lend.refl _ _) (LendL.nil)) rfl (weirkeep_sum_I (r78))) (fun rr HH hp => ?_)
 obtain ⟨rfl, rfl⟩ := hp
 refine GoO.guardT rfl rfl rfl ?_
 refine GoO.pure (ps_eql rfl rfl rfl) ?_
 refine GoO.guardT rfl rfl rfl ?_
 refine GoO.pure (ps_move rfl rfl) ?_
 refine GoO.guardD rfl rfl rfl rfl (fun h80 => ?_) (fun h80 => ?_)
 replace H := ite_t h80 H
 refine GoO.pure (ps_move rfl rfl) ?_
 refine GoO.guardT rfl rfl rfl ?_
 refine GoO.pure (ps_move rfl rfl) ?_
 refine GoO.guardT rfl rfl rfl ?_
 have hb := bind_l H; clear H
 obtain ⟨r81, e82, H⟩ := hb
 refine GoO.effC (ef_call rfl (Take.nil _) (Take.nil _) (weirkeep_sum_spec cols e82) (LendL.cons (Lend.refl _ _) (LendL.nil)) rfl (weirkeep_sum_I (r81))) (fun rr HH hp => ?_)
 obtain ⟨rfl, rfl⟩ := hp
 refine GoO.guardT rfl rfl rfl ?_
 refine GoO.pure (ps_eql rfl rfl rfl) ?_
 refine GoO.guardT rfl rfl rfl ?_
 refine GoO.pure (ps_pickT rfl rfl rfl) ?_
 refine GoO.guardT rfl rfl rfl ?_
 refine GoO.pure (ps_eqlB rfl rfl rfl) ?_
 refine GoO.pure (ps_pickT rfl rfl rfl) ?_
 refine GoO.pure (ps_assign rfl rfl) ?_
 refine GoO.nil ?_
 refine GoK.code ?_
 obtain rfl := Option.some.inj H
 exact GoC.retL (ds := [.v (.bool (decide ((decide (r6 = 0)) = (decide (r74 = r81)))))]) Try.results13 (ResL.cons (ResD.tmp rfl) (ResL.nil)) (Take.nil _) ⟨rfl, rfl⟩
 replace H := ite_f h80 H
 refine GoO.guardF rfl rfl rfl rfl ?_
 refine GoO.guardF rfl rfl rfl rfl ?_
 refine GoO.guardF rfl rfl rfl rfl ?_
 refine GoO.guardT rfl rfl rfl ?_
 refine GoO.pure (ps_pickF rfl rfl rfl) ?_
 refine GoO.guardT rfl rfl rfl ?_
 refine GoO.pure (ps_eqlB rfl rfl rfl) ?_
 refine GoO.pure (ps_pickT rfl rfl rfl) ?_
 refine GoO.pure (ps_assign rfl rfl) ?_
 refine GoO.nil ?_
 refine GoK.code ?_
 obtain rfl := Option.some.inj H
 exact GoC.retL (ds := [.v (.bool (decide ((decide (r6 = 0)) = false)))]) Try.results13 (ResL.cons (ResD.tmp rfl) (ResL.nil)) (Take.nil _) ⟨rfl, rfl⟩
 replace H := ite_f h77 H
 refine GoO.guardF rfl rfl rfl rfl ?_
 refine GoO.guardF rfl rfl rfl rfl ?_
 refine GoO.guardF rfl rfl rfl rfl ?_
 refine GoO.guardF rfl rfl rfl rfl ?_
 refine GoO.guardF rfl rfl rfl rfl ?_
 refine GoO.guardF rfl rfl rfl rfl ?_
 refine GoO.guardU rfl rfl rfl rfl ?_
 refine GoO.guardU rfl rfl rfl rfl ?_
 refine GoO.guardU rfl rfl rfl rfl ?_
 refine GoO.guardU rfl rfl rfl rfl ?_
 refine GoO.guardF rfl rfl rfl rfl ?_
 refine GoO.guardF rfl rfl rfl rfl ?_
 refine GoO.pure (ps_pickF rfl rfl rfl) ?_
 refine GoO.pure (ps_assign rfl rfl) ?_
 refine GoO.nil ?_
 refine GoK.code ?_
 obtain rfl := Option.some.inj H
 exact GoC.retL (ds := [.v (.bool false)]) Try.results13 (ResL.cons (ResD.tmp rfl) (ResL.nil)) (Take.nil _) ⟨rfl, rfl⟩

end Go.Proofs.Ytlelfifbmckhgaa
