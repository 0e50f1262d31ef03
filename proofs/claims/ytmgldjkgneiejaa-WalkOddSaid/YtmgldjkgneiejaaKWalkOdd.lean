/- The functions weirkeep.WalkOdd, told as plain functions, and that the code does as they say. -/
import Derived.Test.YtmgldjkgneiejaaTys
import Derived.Test.YtmgldjkgneiejaaDat
import Derived.Test.YtmgldjkgneiejaaGkeep
import Derived.Test.YtmgldjkgneiejaaGref
import Derived.Test.YtmgldjkgneiejaaGslices
import Derived.Test.YtmgldjkgneiejaaGwalk
namespace Go.Proofs.Ytmgldjkgneiejaa
open Go Go.Proofs.Ytmgldjkgneiejaa.Sx
set_option linter.unusedVariables false
set_option linter.unusedSimpArgs false
def weirkeep_WalkOdd_B1 (g : Graph) (r14 : (List Int)) : Nat → Unit → Option (Ct (Unit) (Ex (Unit) (Bool))) := fun k55 _ =>
 ck (0 ≤ (g.as.getD k55 El.d).f ∧ (g.as.getD k55 El.d).f < ((r14.length : Nat) : Int)) <|
 ck (0 ≤ (g.as.getD k55 El.d).t ∧ (g.as.getD k55 El.d).t < ((r14.length : Nat) : Int)) <|
 if (r14.getD (((g.as.getD k55 El.d).f).toNat) (0 : Int)) = (r14.getD (((g.as.getD k55 El.d).t).toNat) (0 : Int)) then
  some (.ret (.ret false))
 else
  if (Int.fdiv (r14.getD (((g.as.getD k55 El.d).f).toNat) (0 : Int)) (2 ^ min 1 64)) ≠ 0 then
   some (.ret (.ret false))
  else
   if (Int.fdiv (r14.getD (((g.as.getD k55 El.d).t).toNat) (0 : Int)) (2 ^ min 1 64)) ≠ 0 then
    some (.ret (.ret false))
   else
    some (.go ())
def weirkeep_WalkOdd_B2 (g : Graph) (steps : (List Int)) (r16 : Int) : Nat → (Int × Nat) → Option (Ct (Int × Nat) (Bool)) := fun k73 (x66, n67) =>
 (weirref_Rest_F (steps.getD k73 (0 : Int)) ((g.as.length : Nat) : Int)).bind fun r75 =>
 ck (0 ≤ r75 ∧ r75 < ((g.as.length : Nat) : Int)) <|
 if x66 = ((g.as.getD r75.toNat El.d).f) then
  ck (InI (((n67 : Nat) : Int) + 1)) <|
  if ((g.as.getD r75.toNat El.d).t) = ((g.as.getD 0 El.d).f) then
   if (Int.tmod (((n67 + 1) : Nat) : Int) 2) = 1 then
    if r16 = 0 then
     some (.ret false)
    else
     some (.go ((g.as.getD r75.toNat El.d).t, (n67 + 1)))
   else
    some (.go ((g.as.getD r75.toNat El.d).t, (n67 + 1)))
  else
   some (.go ((g.as.getD r75.toNat El.d).t, (n67 + 1)))
 else
  if x66 = ((g.as.getD r75.toNat El.d).t) then
   ck (InI (((n67 : Nat) : Int) + 1)) <|
   if ((g.as.getD r75.toNat El.d).f) = ((g.as.getD 0 El.d).f) then
    if (Int.tmod (((n67 + 1) : Nat) : Int) 2) = 1 then
     if r16 = 0 then
      some (.ret false)
     else
      some (.go ((g.as.getD r75.toNat El.d).f, (n67 + 1)))
    else
     some (.go ((g.as.getD r75.toNat El.d).f, (n67 + 1)))
   else
    some (.go ((g.as.getD r75.toNat El.d).f, (n67 + 1)))
  else
   some (.go (x66, n67))
def weirkeep_WalkOdd_F (g : Graph) (steps : (List Int)) : Option (Bool) :=
 (weirkeep_line_F).bind fun r2 =>
 (walk_Sides_F r2).bind fun (r5, r7) =>
 if r7 ≠ 0 then
  some false
 else
  (slices_Equal_int_F r5 ([0, 1, 0] : List Int)).bind fun r11 =>
  if (!r11) = true then
   some false
  else
   (walk_Sides_F g).bind fun (r14, r16) =>
   ((
    if r16 ≠ 0 then
     if r16 ≠ 6 then
      if r16 ≠ 0 then
       some (.ret true)
      else
       if ((r14.length : Nat) : Int) = g.n then
        some (.ret true)
       else
        some (.ret (decide (10000 < ((steps.length : Nat) : Int))))
     else
      if ((g.as.length : Nat) : Int) = 0 then
       if r16 ≠ 0 then
        some (.ret true)
       else
        if ((r14.length : Nat) : Int) = g.n then
         some (.ret true)
        else
         some (.ret (decide (10000 < ((steps.length : Nat) : Int))))
      else
       if 10000 < ((steps.length : Nat) : Int) then
        if r16 ≠ 0 then
         some (.ret true)
        else
         if ((r14.length : Nat) : Int) = g.n then
          some (.ret true)
         else
          some (.ret (decide (10000 < ((steps.length : Nat) : Int))))
       else
        some (.go ())
    else
     if ((g.as.length : Nat) : Int) = 0 then
      if r16 ≠ 0 then
       some (.ret true)
      else
       if ((r14.length : Nat) : Int) = g.n then
        some (.ret true)
       else
        some (.ret (decide (10000 < ((steps.length : Nat) : Int))))
     else
      if 10000 < ((steps.length : Nat) : Int) then
       if r16 ≠ 0 then
        some (.ret true)
       else
        if ((r14.length : Nat) : Int) = g.n then
         some (.ret true)
        else
         some (.ret (decide (10000 < ((steps.length : Nat) : Int))))
      else
       some (.go ())) : Option (Ex (Unit) (Bool))).bind fun q => match q with
   | .go () =>
    ((
     if r16 = 0 then
      (forC (weirkeep_WalkOdd_B1 g r14) g.as.length 0 ()).bind fun q => match q with
      | .go _ =>
       some (.go ())
      | .ret x => some x
     else
      some (.go ())) : Option (Ex (Unit) (Bool))).bind fun q => match q with
    | .go () =>
     ck (0 < g.as.length) <|
     (forC (weirkeep_WalkOdd_B2 g steps r16) steps.length 0 ((g.as.getD 0 El.d).f, 0)).bind fun q => match q with
     | .go (x71, n72) =>
      some true
     | .ret x => some x
    | .ret x => some x
   | .ret x => some x
def weirkeep_WalkOdd_P (out : Bool) (d : D) (H : List HL) : Prop := d = .v (.bool out) ∧ H = []
theorem weirkeep_WalkOdd_I (out : Bool) : IndepP (weirkeep_WalkOdd_P out) := IndepP.of (by rintro _ _ ⟨rfl, rfl⟩; exact ⟨inferInstance, inferInstance⟩)
set_option maxRecDepth 100000 in
set_option maxHeartbeats 4000000 in
theorem weirkeep_WalkOdd_spec (g : Graph) (steps : (List Int)) {out : Bool} (H : weirkeep_WalkOdd_F g steps = some out) : Does Try.prog 11 [.ag 2 (nth [.v (.int .i64 g.n), slD g.as]), slD steps] [] (weirkeep_WalkOdd_P out) := by
 unfold weirkeep_WalkOdd_F at H
 refine Does.intro Try.func11 rfl Try.ntmps11 rfl fun w0 I0 => ?_
 refine GoC.seq ?_
 refine GoC.region ?_
 refine GoO.effB (ef_boxAg rfl rfl) (fun β1 => ?_)
 refine GoO.pure (ps_assign rfl rfl) ?_
 refine GoO.nil ?_
 refine GoK.code ?_
 refine GoC.seq ?_
 refine GoC.seq ?_
 refine GoC.region ?_
 have hb := bind_l H; clear H
 obtain ⟨r2, e4, H⟩ := hb
 refine GoO.effC (ef_call rfl (Take.nil _) (Take.nil _) (weirkeep_line_spec e4) (LendL.nil) rfl (weirkeep_line_I (r2))) (fun rr HH hp => ?_)
 obtain ⟨β3, rfl, rfl⟩ := hp
 have hb := bind_l H; clear H
 obtain ⟨⟨r5, r7⟩, e8, H⟩ := hb
 refine GoO.effC (ef_call rfl (Take.nil _) (Take.cons _ _ _ _ _ Rem.p0 (Take.nil _)) (walk_Sides_spec r2 e8) (LendL.cons (Lend.agA ⟨⟨trivial, Lend.refl _ _⟩, Lend.all' At.p0 (by first | rfl | omega | (simp only [subl_length, List.length_set, List.length_append, List.length_cons, List.length_nil, List.length_replicate, row_len] <;> first | rfl | omega)) rfl⟩) (LendL.nil)) rfl (walk_Sides_I (r5, r7))) (fun rr HH hp => ?_)
 obtain ⟨β6, rfl, rfl⟩ := hp
 refine GoO.pure (ps_move rfl rfl) ?_
 refine GoO.pure (ps_extract rfl rfl rfl) ?_
 refine GoO.pure (ps_extract rfl rfl rfl) ?_
 refine GoO.pure (ps_assign rfl rfl) ?_
 refine GoO.pure (ps_assign rfl rfl) ?_
 refine GoO.nil ?_
 refine GoK.code ?_
 refine GoC.seq ?_
 refine GoC.region ?_
 refine GoO.pure (ps_move rfl rfl) ?_
 refine GoO.pure (ps_neq rfl rfl rfl) ?_
 refine GoO.pure (ps_move rfl rfl) ?_
 refine GoO.guardE rfl rfl rfl rfl (fun h9 => ?_) (fun h9 => ?_)
 replace H := ite_f h9 H
 refine GoO.pure (ps_move rfl rfl) ?_
 refine GoO.guardT rfl rfl rfl ?_
 refine GoO.effB (ef_buildSlice (row ([0, 1, 0] : List Int)) rfl (Parts.cons _ _ _ _ _ _ _ _ ⟨rfl, rfl⟩ (Part.one _ rfl rfl) rfl rfl (Parts.cons _ _ _ _ _ _ _ _ ⟨rfl, rfl⟩ (Part.one _ rfl rfl) rfl rfl (Parts.cons _ _ _ _ _ _ _ _ ⟨rfl, rfl⟩ (Part.one _ rfl rfl) rfl rfl (Parts.nil _)))) rfl rfl rfl rfl) (fun β10 => ?_)
 refine GoO.guardT rfl rfl rfl ?_
 have hb := bind_l H; clear H
 obtain ⟨r11, e12, H⟩ := hb
 refine GoO.effC (ef_call rfl (Take.nil _) (Take.cons _ _ _ _ _ Rem.p1 (Take.cons _ _ _ _ _ Rem.p0 (Take.nil _))) (slices_Equal_int_spec r5 ([0, 1, 0] : List Int) e12) (LendL.cons (Lend.all' At.p0 (by first | rfl | omega | (simp only [subl_length, List.length_set, List.length_append, List.length_cons, List.length_nil, List.length_replicate, row_len] <;> first | rfl | omega)) rfl) (LendL.cons (Lend.all' At.p1 (by first | rfl | omega | (simp only [subl_length, List.length_set, List.length_append, List.length_cons, List.length_nil, List.length_replicate, row_len] <;> first | rfl | omega)) rfl) (LendL.nil))) rfl (slices_Equal_int_I (r11))) (fun rr HH hp => ?_)
 obtain ⟨rfl, rfl⟩ := hp
 refine GoO.guardT rfl rfl rfl ?_
 refine GoO.pure (ps_not rfl rfl) ?_
 refine GoO.pure (ps_pickF rfl rfl rfl) ?_
 refine GoO.nil ?_
 refine GoK.code ?_
 refine GoC.cond rfl (fun h13 => ?_) (fun h13 => ?_)
 replace H := itb_t h13 H
 refine GoC.seq ?_
 refine GoC.region ?_
 refine GoO.pure (ps_assign rfl rfl) ?_
 refine GoO.nil ?_
 refine GoK.code ?_
 obtain rfl := Option.some.inj H
 exact GoC.retL (ds := [.v (.bool false)]) Try.results11 (ResL.cons (ResD.tmp rfl) (ResL.nil)) (Take.nil _) ⟨rfl, rfl⟩
 replace H := itb_f h13 H
 refine GoC.skip ?_
 refine GoK.code ?_
 refine GoC.seq ?_
 refine GoC.region ?_
 refine GoO.pure (ps_loadAg rfl At.p3 At.p3 Nat.zero_lt_one rfl rfl) ?_
 have hb := bind_l H; clear H
 obtain ⟨⟨r14, r16⟩, e17, H⟩ := hb
 refine GoO.effC (ef_call rfl (Take.nil _) (Take.nil _) (walk_Sides_spec g e17) (LendL.cons (Lend.agA ⟨⟨trivial, Lend.refl _ _⟩, Lend.refl _ _⟩) (LendL.nil)) rfl (walk_Sides_I (r14, r16))) (fun rr HH hp => ?_)
 obtain ⟨β15, rfl, rfl⟩ := hp
 refine GoO.pure (ps_move rfl rfl) ?_
 refine GoO.pure (ps_extract rfl rfl rfl) ?_
 refine GoO.pure (ps_extract rfl rfl rfl) ?_
 refine GoO.pure (ps_assign rfl rfl) ?_
 refine GoO.pure (ps_assign rfl rfl) ?_
 refine GoO.nil ?_
 refine GoK.code ?_
 have hb := bind_l H; clear H
 obtain ⟨q19, H, HK18⟩ := hb
 refine GoC.seqJ [(1, slD steps), (2, .ptr β1 2 0 0), (7, .own β15 1 0 r14.length), (8, .v (.int .i64 r16))] [.one β15 3 1 (row r14), .one β10 3 1 (row ([0, 1, 0] : List Int)), .one β6 3 1 (row r5), .one β3 32 3 (row r2.as), .one β1 24 2 (st1 (nth [.v (.int .i64 g.n), slD g.as]))] (fun v h => q19 = .go () ∧ v = [] ∧ h = []) ?_ ?_
 refine GoC.seq ?_
 refine GoC.region ?_
 refine GoO.pure (ps_move rfl rfl) ?_
 refine GoO.pure (ps_neq rfl rfl rfl) ?_
 refine GoO.pure (ps_move rfl rfl) ?_
 refine GoO.guardD rfl rfl rfl rfl (fun h20 => ?_) (fun h20 => ?_)
 replace H := ite_t h20 H
 refine GoO.pure (ps_move rfl rfl) ?_
 refine GoO.guardT rfl rfl rfl ?_
 refine GoO.pure (ps_neq rfl rfl rfl) ?_
 refine GoO.pure (ps_pickT rfl rfl rfl) ?_
 refine GoO.pure (ps_move rfl rfl) ?_
 refine GoO.guardE rfl rfl rfl rfl (fun h21 => ?_) (fun h21 => ?_)
 replace H := ite_f h21 H
 refine GoO.pure (ps_fieldAddr rfl rfl) ?_
 refine GoO.guardT rfl rfl rfl ?_
 refine GoO.pure (ps_load rfl At.p4 At.p4 Nat.zero_lt_one rfl rfl) ?_
 refine GoO.guardT rfl rfl rfl ?_
 refine GoO.pure (ps_len rfl (by constructor) rfl) ?_
 refine GoO.lenLe (n := g.as.length) (x := .tmp 43) rfl (by constructor) sl_lenLe (fun ml22 => ?_)
 refine GoO.guardT rfl rfl rfl ?_
 refine GoO.pure (ps_eql rfl rfl rfl) ?_
 refine GoO.pure (ps_pickF rfl rfl rfl) ?_
 refine GoO.pure (ps_move rfl rfl) ?_
 refine GoO.guardE rfl rfl rfl rfl (fun h23 => ?_) (fun h23 => ?_)
 replace H := ite_f h23 H
 refine GoO.pure (ps_move rfl rfl) ?_
 refine GoO.guardT rfl rfl rfl ?_
 refine GoO.pure (ps_len rfl (by constructor) rfl) ?_
 refine GoO.lenLe (n := steps.length) (x := .tmp 48) rfl (by constructor) sl_lenLe (fun ml24 => ?_)
 refine GoO.guardT rfl rfl rfl ?_
 refine GoO.pure (ps_gtr rfl rfl rfl) ?_
 refine GoO.pure (ps_pickF rfl rfl rfl) ?_
 refine GoO.nil ?_
 refine GoK.code ?_
 refine GoC.condD rfl (fun h25 => ?_) (fun h25 => ?_)
 replace H := ite_t h25 H
 refine GoC.seq ?_
 refine GoC.region ?_
 refine GoO.pure (ps_move rfl rfl) ?_
 refine GoO.pure (ps_neq rfl rfl rfl) ?_
 refine GoO.pure (ps_move rfl rfl) ?_
 refine GoO.guardE rfl rfl rfl rfl (fun h26 => ?_) (fun h26 => ?_)
 replace H := ite_f h26 H
 refine GoO.pure (ps_move rfl rfl) ?_
 refine GoO.guardT rfl rfl rfl ?_
 refine GoO.pure (ps_len rfl (by constructor) rfl) ?_
 refine GoO.lenLe (n := r14.length) (x := .tmp 55) rfl (by constructor) own_lenLe (fun ml27 => ?_)
 refine GoO.guardT rfl rfl rfl ?_
 refine GoO.pure (ps_fieldAddr rfl rfl) ?_
 refine GoO.guardT rfl rfl rfl ?_
 refine GoO.pure (ps_load rfl At.p4 At.p4 Nat.zero_lt_one rfl rfl) ?_
 refine GoO.guardT rfl rfl rfl ?_
 refine GoO.pure (ps_eql rfl rfl rfl) ?_
 refine GoO.pure (ps_pickF rfl rfl rfl) ?_
 refine GoO.pure (ps_move rfl rfl) ?_
 refine GoO.guardE rfl rfl rfl rfl (fun h28 => ?_) (fun h28 => ?_)
 replace H := ite_f h28 H
 refine GoO.pure (ps_move rfl rfl) ?_
 refine GoO.guardT rfl rfl rfl ?_
 refine GoO.pure (ps_len rfl (by constructor) rfl) ?_
 refine GoO.guardT rfl rfl rfl ?_
 refine GoO.pure (ps_gtr rfl rfl rfl) ?_
 refine GoO.pure (ps_pickF rfl rfl rfl) ?_
 refine GoO.pure (ps_assign rfl rfl) ?_
 refine GoO.nil ?_
 refine GoK.code ?_
 obtain rfl := Option.some.inj H
 obtain rfl := Option.some.inj HK18
 exact GoC.retL (ds := [.v (.bool (decide (10000 < ((steps.length : Nat) : Int))))]) Try.results11 (ResL.cons (ResD.tmp rfl) (ResL.nil)) (Take.nil _) ⟨rfl, rfl⟩
 replace H := ite_t h28 H
 refine GoO.guardF rfl rfl rfl rfl ?_
 refine GoO.guardF rfl rfl rfl rfl ?_
 refine GoO.pure (ps_pickT rfl rfl rfl) ?_
 refine GoO.pure (ps_assign rfl rfl) ?_
 refine GoO.nil ?_
 refine GoK.code ?_
 obtain rfl := Option.some.inj H
 obtain rfl := Option.some.inj HK18
 exact GoC.retL (ds := [.v (.bool true)]) Try.results11 (ResL.cons (ResD.tmp rfl) (ResL.nil)) (Take.nil _) ⟨rfl, rfl⟩
 replace H := ite_t h26 H
 refine GoO.guardF rfl rfl rfl rfl ?_
 refine GoO.guardF rfl rfl rfl rfl ?_
 refine GoO.guardF rfl rfl rfl rfl ?_
 refine GoO.guardF rfl rfl rfl rfl ?_
 refine GoO.pure (ps_pickT rfl rfl rfl) ?_
 refine GoO.pure (ps_move rfl rfl) ?_
 refine GoO.guardF rfl rfl rfl rfl ?_
 refine GoO.guardF rfl rfl rfl rfl ?_
 refine GoO.guardF rfl rfl rfl rfl ?_
 refine GoO.pure (ps_pickT rfl rfl rfl) ?_
 refine GoO.pure (ps_assign rfl rfl) ?_
 refine GoO.nil ?_
 refine GoK.code ?_
 obtain rfl := Option.some.inj H
 obtain rfl := Option.some.inj HK18
 exact GoC.retL (ds := [.v (.bool true)]) Try.results11 (ResL.cons (ResD.tmp rfl) (ResL.nil)) (Take.nil _) ⟨rfl, rfl⟩
 replace H := ite_f h25 H
 refine GoC.skip ?_
 obtain rfl := Option.some.inj H
 exact GoK.meet ⟨rfl, rfl, rfl⟩ (EnvD.eq rfl (EnvD.eq rfl (EnvD.eq rfl (EnvD.eq rfl (EnvD.nil))))) (TkD.cons _ _ _ _ _ Rem.p0 (HLe.refl _) (TkD.cons _ _ _ _ _ Rem.p0 (HLe.refl _) (TkD.cons _ _ _ _ _ Rem.p0 (HLe.refl _) (TkD.cons _ _ _ _ _ Rem.p0 (HLe.refl _) (TkD.cons _ _ _ _ _ Rem.p0 (HLe.st ⟨⟨trivial, DLe.refl _⟩, DLe.refl _⟩) (TkD.nil _))))))
 replace H := ite_t h23 H
 refine GoO.guardF rfl rfl rfl rfl ?_
 refine GoO.guardF rfl rfl rfl rfl ?_
 refine GoO.pure (ps_pickT rfl rfl rfl) ?_
 refine GoO.nil ?_
 refine GoK.code ?_
 refine GoC.condT rfl ?_
 refine GoC.seq ?_
 refine GoC.region ?_
 refine GoO.pure (ps_move rfl rfl) ?_
 refine GoO.pure (ps_neq rfl rfl rfl) ?_
 refine GoO.pure (ps_move rfl rfl) ?_
 refine GoO.guardE rfl rfl rfl rfl (fun h29 => ?_) (fun h29 => ?_)
 replace H := ite_f h29 H
 refine GoO.pure (ps_move rfl rfl) ?_
 refine GoO.guardT rfl rfl rfl ?_
 refine GoO.pure (ps_len rfl (by constructor) rfl) ?_
 refine GoO.lenLe (n := r14.length) (x := .tmp 55) rfl (by constructor) own_lenLe (fun ml30 => ?_)
 refine GoO.guardT rfl rfl rfl ?_
 refine GoO.pure (ps_fieldAddr rfl rfl) ?_
 refine GoO.guardT rfl rfl rfl ?_
 refine GoO.pure (ps_load rfl At.p4 At.p4 Nat.zero_lt_one rfl rfl) ?_
 refine GoO.guardT rfl rfl rfl ?_
 refine GoO.pure (ps_eql rfl rfl rfl) ?_
 refine GoO.pure (ps_pickF rfl rfl rfl) ?_
 refine GoO.pure (ps_move rfl rfl) ?_
 refine GoO.guardE rfl rfl rfl rfl (fun h31 => ?_) (fun h31 => ?_)
 replace H := ite_f h31 H
 refine GoO.pure (ps_move rfl rfl) ?_
 refine GoO.guardT rfl rfl rfl ?_
 refine GoO.pure (ps_len rfl (by constructor) rfl) ?_
 refine GoO.lenLe (n := steps.length) (x := .tmp 62) rfl (by constructor) sl_lenLe (fun ml32 => ?_)
 refine GoO.guardT rfl rfl rfl ?_
 refine GoO.pure (ps_gtr rfl rfl rfl) ?_
 refine GoO.pure (ps_pickF rfl rfl rfl) ?_
 refine GoO.pure (ps_assign rfl rfl) ?_
 refine GoO.nil ?_
 refine GoK.code ?_
 obtain rfl := Option.some.inj H
 obtain rfl := Option.some.inj HK18
 exact GoC.retL (ds := [.v (.bool (decide (10000 < ((steps.length : Nat) : Int))))]) Try.results11 (ResL.cons (ResD.tmp rfl) (ResL.nil)) (Take.nil _) ⟨rfl, rfl⟩
 replace H := ite_t h31 H
 refine GoO.guardF rfl rfl rfl rfl ?_
 refine GoO.guardF rfl rfl rfl rfl ?_
 refine GoO.pure (ps_pickT rfl rfl rfl) ?_
 refine GoO.pure (ps_assign rfl rfl) ?_
 refine GoO.nil ?_
 refine GoK.code ?_
 obtain rfl := Option.some.inj H
 obtain rfl := Option.some.inj HK18
 exact GoC.retL (ds := [.v (.bool true)]) Try.results11 (ResL.cons (ResD.tmp rfl) (ResL.nil)) (Take.nil _) ⟨rfl, rfl⟩
 replace H := ite_t h29 H
 refine GoO.guardF rfl rfl rfl rfl ?_
 refine GoO.guardF rfl rfl rfl rfl ?_
 refine GoO.guardF rfl rfl rfl rfl ?_
 refine GoO.guardF rfl rfl rfl rfl ?_
 refine GoO.pure (ps_pickT rfl rfl rfl) ?_
 refine GoO.pure (ps_move rfl rfl) ?_
 refine GoO.guardF rfl rfl rfl rfl ?_
 refine GoO.guardF rfl rfl rfl rfl ?_
 refine GoO.guardF rfl rfl rfl rfl ?_
 refine GoO.pure (ps_pickT rfl rfl rfl) ?_
 refine GoO.pure (ps_assign rfl rfl) ?_
 refine GoO.nil ?_
 refine GoK.code ?_
 obtain rfl := Option.some.inj H
 obtain rfl := Option.some.inj HK18
 exact GoC.retL (ds := [.v (.bool true)]) Try.results11 (ResL.cons (ResD.tmp rfl) (ResL.nil)) (Take.nil _) ⟨rfl, rfl⟩
 replace H := ite_t h21 H
 refine GoO.guardF rfl rfl rfl rfl ?_
 refine GoO.guardF rfl rfl rfl rfl ?_
 refine GoO.guardF rfl rfl rfl rfl ?_
 refine GoO.pure (ps_pickT rfl rfl rfl) ?_
 refine GoO.pure (ps_move rfl rfl) ?_
 refine GoO.guardF rfl rfl rfl rfl ?_
 refine GoO.guardF rfl rfl rfl rfl ?_
 refine GoO.guardF rfl rfl rfl rfl ?_
 refine GoO.pure (ps_pickT rfl rfl rfl) ?_
 refine GoO.nil ?_
 refine GoK.code ?_
 refine GoC.condT rfl ?_
 refine GoC.seq ?_
 refine GoC.region ?_
 refine GoO.pure (ps_move rfl rfl) ?_
 refine GoO.pure (ps_neq rfl rfl rfl) ?_
 refine GoO.pure (ps_move rfl rfl) ?_
 refine GoO.guardE rfl rfl rfl rfl (fun h33 => ?_) (fun h33 => ?_)
 replace H := ite_f h33 H
 refine GoO.pure (ps_move rfl rfl) ?_
 refine GoO.guardT rfl rfl rfl ?_
 refine GoO.pure (ps_len rfl (by constructor) rfl) ?_
 refine GoO.lenLe (n := r14.length) (x := .tmp 55) rfl (by constructor) own_lenLe (fun ml34 => ?_)
 refine GoO.guardT rfl rfl rfl ?_
 refine GoO.pure (ps_fieldAddr rfl rfl) ?_
 refine GoO.guardT rfl rfl rfl ?_
 refine GoO.pure (ps_load rfl At.p4 At.p4 Nat.zero_lt_one rfl rfl) ?_
 refine GoO.guardT rfl rfl rfl ?_
 refine GoO.pure (ps_eql rfl rfl rfl) ?_
 refine GoO.pure (ps_pickF rfl rfl rfl) ?_
 refine GoO.pure (ps_move rfl rfl) ?_
 refine GoO.guardE rfl rfl rfl rfl (fun h35 => ?_) (fun h35 => ?_)
 replace H := ite_f h35 H
 refine GoO.pure (ps_move rfl rfl) ?_
 refine GoO.guardT rfl rfl rfl ?_
 refine GoO.pure (ps_len rfl (by constructor) rfl) ?_
 refine GoO.lenLe (n := steps.length) (x := .tmp 62) rfl (by constructor) sl_lenLe (fun ml36 => ?_)
 refine GoO.guardT rfl rfl rfl ?_
 refine GoO.pure (ps_gtr rfl rfl rfl) ?_
 refine GoO.pure (ps_pickF rfl rfl rfl) ?_
 refine GoO.pure (ps_assign rfl rfl) ?_
 refine GoO.nil ?_
 refine GoK.code ?_
 obtain rfl := Option.some.inj H
 obtain rfl := Option.some.inj HK18
 exact GoC.retL (ds := [.v (.bool (decide (10000 < ((steps.length : Nat) : Int))))]) Try.results11 (ResL.cons (ResD.tmp rfl) (ResL.nil)) (Take.nil _) ⟨rfl, rfl⟩
 replace H := ite_t h35 H
 refine GoO.guardF rfl rfl rfl rfl ?_
 refine GoO.guardF rfl rfl rfl rfl ?_
 refine GoO.pure (ps_pickT rfl rfl rfl) ?_
 refine GoO.pure (ps_assign rfl rfl) ?_
 refine GoO.nil ?_
 refine GoK.code ?_
 obtain rfl := Option.some.inj H
 obtain rfl := Option.some.inj HK18
 exact GoC.retL (ds := [.v (.bool true)]) Try.results11 (ResL.cons (ResD.tmp rfl) (ResL.nil)) (Take.nil _) ⟨rfl, rfl⟩
 replace H := ite_t h33 H
 refine GoO.guardF rfl rfl rfl rfl ?_
 refine GoO.guardF rfl rfl rfl rfl ?_
 refine GoO.guardF rfl rfl rfl rfl ?_
 refine GoO.guardF rfl rfl rfl rfl ?_
 refine GoO.pure (ps_pickT rfl rfl rfl) ?_
 refine GoO.pure (ps_move rfl rfl) ?_
 refine GoO.guardF rfl rfl rfl rfl ?_
 refine GoO.guardF rfl rfl rfl rfl ?_
 refine GoO.guardF rfl rfl rfl rfl ?_
 refine GoO.pure (ps_pickT rfl rfl rfl) ?_
 refine GoO.pure (ps_assign rfl rfl) ?_
 refine GoO.nil ?_
 refine GoK.code ?_
 obtain rfl := Option.some.inj H
 obtain rfl := Option.some.inj HK18
 exact GoC.retL (ds := [.v (.bool true)]) Try.results11 (ResL.cons (ResD.tmp rfl) (ResL.nil)) (Take.nil _) ⟨rfl, rfl⟩
 replace H := ite_f h20 H
 refine GoO.guardF rfl rfl rfl rfl ?_
 refine GoO.pure (ps_pickF rfl rfl rfl) ?_
 refine GoO.pure (ps_move rfl rfl) ?_
 refine GoO.guardT rfl rfl rfl ?_
 refine GoO.pure (ps_fieldAddr rfl rfl) ?_
 refine GoO.guardT rfl rfl rfl ?_
 refine GoO.pure (ps_load rfl At.p4 At.p4 Nat.zero_lt_one rfl rfl) ?_
 refine GoO.guardT rfl rfl rfl ?_
 refine GoO.pure (ps_len rfl (by constructor) rfl) ?_
 refine GoO.lenLe (n := g.as.length) (x := .tmp 43) rfl (by constructor) sl_lenLe (fun ml37 => ?_)
 refine GoO.guardT rfl rfl rfl ?_
 refine GoO.pure (ps_eql rfl rfl rfl) ?_
 refine GoO.pure (ps_pickF rfl rfl rfl) ?_
 refine GoO.pure (ps_move rfl rfl) ?_
 refine GoO.guardE rfl rfl rfl rfl (fun h38 => ?_) (fun h38 => ?_)
 replace H := ite_f h38 H
 refine GoO.pure (ps_move rfl rfl) ?_
 refine GoO.guardT rfl rfl rfl ?_
 refine GoO.pure (ps_len rfl (by constructor) rfl) ?_
 refine GoO.lenLe (n := steps.length) (x := .tmp 48) rfl (by constructor) sl_lenLe (fun ml39 => ?_)
 refine GoO.guardT rfl rfl rfl ?_
 refine GoO.pure (ps_gtr rfl rfl rfl) ?_
 refine GoO.pure (ps_pickF rfl rfl rfl) ?_
 refine GoO.nil ?_
 refine GoK.code ?_
 refine GoC.condD rfl (fun h40 => ?_) (fun h40 => ?_)
 replace H := ite_t h40 H
 refine GoC.seq ?_
 refine GoC.region ?_
 refine GoO.pure (ps_move rfl rfl) ?_
 refine GoO.pure (ps_neq rfl rfl rfl) ?_
 refine GoO.pure (ps_move rfl rfl) ?_
 refine GoO.guardE rfl rfl rfl rfl (fun h41 => ?_) (fun h41 => ?_)
 replace H := ite_f h41 H
 refine GoO.pure (ps_move rfl rfl) ?_
 refine GoO.guardT rfl rfl rfl ?_
 refine GoO.pure (ps_len rfl (by constructor) rfl) ?_
 refine GoO.lenLe (n := r14.length) (x := .tmp 55) rfl (by constructor) own_lenLe (fun ml42 => ?_)
 refine GoO.guardT rfl rfl rfl ?_
 refine GoO.pure (ps_fieldAddr rfl rfl) ?_
 refine GoO.guardT rfl rfl rfl ?_
 refine GoO.pure (ps_load rfl At.p4 At.p4 Nat.zero_lt_one rfl rfl) ?_
 refine GoO.guardT rfl rfl rfl ?_
 refine GoO.pure (ps_eql rfl rfl rfl) ?_
 refine GoO.pure (ps_pickF rfl rfl rfl) ?_
 refine GoO.pure (ps_move rfl rfl) ?_
 refine GoO.guardE rfl rfl rfl rfl (fun h43 => ?_) (fun h43 => ?_)
 replace H := ite_f h43 H
 refine GoO.pure (ps_move rfl rfl) ?_
 refine GoO.guardT rfl rfl rfl ?_
 refine GoO.pure (ps_len rfl (by constructor) rfl) ?_
 refine GoO.guardT rfl rfl rfl ?_
 refine GoO.pure (ps_gtr rfl rfl rfl) ?_
 refine GoO.pure (ps_pickF rfl rfl rfl) ?_
 refine GoO.pure (ps_assign rfl rfl) ?_
 refine GoO.nil ?_
 refine GoK.code ?_
 obtain rfl := Option.some.inj H
 obtain rfl := Option.some.inj HK18
 exact GoC.retL (ds := [.v (.bool (decide (10000 < ((steps.length : Nat) : Int))))]) Try.results11 (ResL.cons (ResD.tmp rfl) (ResL.nil)) (Take.nil _) ⟨rfl, rfl⟩
 replace H := ite_t h43 H
 refine GoO.guardF rfl rfl rfl rfl ?_
 refine GoO.guardF rfl rfl rfl rfl ?_
 refine GoO.pure (ps_pickT rfl rfl rfl) ?_
 refine GoO.pure (ps_assign rfl rfl) ?_
 refine GoO.nil ?_
 refine GoK.code ?_
 obtain rfl := Option.some.inj H
 obtain rfl := Option.some.inj HK18
 exact GoC.retL (ds := [.v (.bool true)]) Try.results11 (ResL.cons (ResD.tmp rfl) (ResL.nil)) (Take.nil _) ⟨rfl, rfl⟩
 replace H := ite_t h41 H
 refine GoO.guardF rfl rfl rfl rfl ?_
 refine GoO.guardF rfl rfl rfl rfl ?_
 refine GoO.guardF rfl rfl rfl rfl ?_
 refine GoO.guardF rfl rfl rfl rfl ?_
 refine GoO.pure (ps_pickT rfl rfl rfl) ?_
 refine GoO.pure (ps_move rfl rfl) ?_
 refine GoO.guardF rfl rfl rfl rfl ?_
 refine GoO.guardF rfl rfl rfl rfl ?_
 refine GoO.guardF rfl rfl rfl rfl ?_
 refine GoO.pure (ps_pickT rfl rfl rfl) ?_
 refine GoO.pure (ps_assign rfl rfl) ?_
 refine GoO.nil ?_
 refine GoK.code ?_
 obtain rfl := Option.some.inj H
 obtain rfl := Option.some.inj HK18
 exact GoC.retL (ds := [.v (.bool true)]) Try.results11 (ResL.cons (ResD.tmp rfl) (ResL.nil)) (Take.nil _) ⟨rfl, rfl⟩
 replace H := ite_f h40 H
 refine GoC.skip ?_
 obtain rfl := Option.some.inj H
 exact GoK.meet ⟨rfl, rfl, rfl⟩ (EnvD.eq rfl (EnvD.eq rfl (EnvD.eq rfl (EnvD.eq rfl (EnvD.nil))))) (TkD.cons _ _ _ _ _ Rem.p0 (HLe.refl _) (TkD.cons _ _ _ _ _ Rem.p0 (HLe.refl _) (TkD.cons _ _ _ _ _ Rem.p0 (HLe.refl _) (TkD.cons _ _ _ _ _ Rem.p0 (HLe.refl _) (TkD.cons _ _ _ _ _ Rem.p0 (HLe.st ⟨⟨trivial, DLe.refl _⟩, DLe.refl _⟩) (TkD.nil _))))))
 replace H := ite_t h38 H
 refine GoO.guardF rfl rfl rfl rfl ?_
 refine GoO.guardF rfl rfl rfl rfl ?_
 refine GoO.pure (ps_pickT rfl rfl rfl) ?_
 refine GoO.nil ?_
 refine GoK.code ?_
 refine GoC.condT rfl ?_
 refine GoC.seq ?_
 refine GoC.region ?_
 refine GoO.pure (ps_move rfl rfl) ?_
 refine GoO.pure (ps_neq rfl rfl rfl) ?_
 refine GoO.pure (ps_move rfl rfl) ?_
 refine GoO.guardE rfl rfl rfl rfl (fun h44 => ?_) (fun h44 => ?_)
 replace H := ite_f h44 H
 refine GoO.pure (ps_move rfl rfl) ?_
 refine GoO.guardT rfl rfl rfl ?_
 refine GoO.pure (ps_len rfl (by constructor) rfl) ?_
 refine GoO.lenLe (n := r14.length) (x := .tmp 55) rfl (by constructor) own_lenLe (fun ml45 => ?_)
 refine GoO.guardT rfl rfl rfl ?_
 refine GoO.pure (ps_fieldAddr rfl rfl) ?_
 refine GoO.guardT rfl rfl rfl ?_
 refine GoO.pure (ps_load rfl At.p4 At.p4 Nat.zero_lt_one rfl rfl) ?_
 refine GoO.guardT rfl rfl rfl ?_
 refine GoO.pure (ps_eql rfl rfl rfl) ?_
 refine GoO.pure (ps_pickF rfl rfl rfl) ?_
 refine GoO.pure (ps_move rfl rfl) ?_
 refine GoO.guardE rfl rfl rfl rfl (fun h46 => ?_) (fun h46 => ?_)
 replace H := ite_f h46 H
 refine GoO.pure (ps_move rfl rfl) ?_
 refine GoO.guardT rfl rfl rfl ?_
 refine GoO.pure (ps_len rfl (by constructor) rfl) ?_
 refine GoO.lenLe (n := steps.length) (x := .tmp 62) rfl (by constructor) sl_lenLe (fun ml47 => ?_)
 refine GoO.guardT rfl rfl rfl ?_
 refine GoO.pure (ps_gtr rfl rfl rfl) ?_
 refine GoO.pure (ps_pickF rfl rfl rfl) ?_
 refine GoO.pure (ps_assign rfl rfl) ?_
 refine GoO.nil ?_
 refine GoK.code ?_
 obtain rfl := Option.some.inj H
 obtain rfl := Option.some.inj HK18
 exact GoC.retL (ds := [.v (.bool (decide (10000 < ((steps.length : Nat) : Int))))]) Try.results11 (ResL.cons (ResD.tmp rfl) (ResL.nil)) (Take.nil _) ⟨rfl, rfl⟩
 replace H := ite_t h46 H
 refine GoO.guardF rfl rfl rfl rfl ?_
 refine GoO.guardF rfl rfl rfl rfl ?_
 refine GoO.pure (ps_pickT rfl rfl rfl) ?_
 refine GoO.pure (ps_assign rfl rfl) ?_
 refine GoO.nil ?_
 refine GoK.code ?_
 obtain rfl := Option.some.inj H
 obtain rfl := Option.some.inj HK18
 exact GoC.retL (ds := [.v (.bool true)]) Try.results11 (ResL.cons (ResD.tmp rfl) (ResL.nil)) (Take.nil _) ⟨rfl, rfl⟩
 replace H := ite_t h44 H
 refine GoO.guardF rfl rfl rfl rfl ?_
 refine GoO.guardF rfl rfl rfl rfl ?_
 refine GoO.guardF rfl rfl rfl rfl ?_
 refine GoO.guardF rfl rfl rfl rfl ?_
 refine GoO.pure (ps_pickT rfl rfl rfl) ?_
 refine GoO.pure (ps_move rfl rfl) ?_
 refine GoO.guardF rfl rfl rfl rfl ?_
 refine GoO.guardF rfl rfl rfl rfl ?_
 refine GoO.guardF rfl rfl rfl rfl ?_
 refine GoO.pure (ps_pickT rfl rfl rfl) ?_
 refine GoO.pure (ps_assign rfl rfl) ?_
 refine GoO.nil ?_
 refine GoK.code ?_
 obtain rfl := Option.some.inj H
 obtain rfl := Option.some.inj HK18
 exact GoC.retL (ds := [.v (.bool true)]) Try.results11 (ResL.cons (ResD.tmp rfl) (ResL.nil)) (Take.nil _) ⟨rfl, rfl⟩
 rintro v h ⟨rfl, rfl, rfl⟩
 have H := HK18; clear HK18
 have hb := bind_l H; clear H
 obtain ⟨q49, H, HK48⟩ := hb
 refine GoC.seqJ [(1, slD steps), (2, .ptr β1 2 0 0), (8, .v (.int .i64 r16))] [.one β15 3 1 (row r14), .one β10 3 1 (row ([0, 1, 0] : List Int)), .one β6 3 1 (row r5), .one β3 32 3 (row r2.as), .one β1 24 2 (st1 (nth [.v (.int .i64 g.n), slD g.as]))] (fun v h => q49 = .go () ∧ v = [] ∧ h = []) ?_ ?_
 refine GoC.seq ?_
 refine GoC.region ?_
 refine GoO.pure (ps_move rfl rfl) ?_
 refine GoO.pure (ps_eql rfl rfl rfl) ?_
 refine GoO.nil ?_
 refine GoK.code ?_
 refine GoC.condD rfl (fun h50 => ?_) (fun h50 => ?_)
 replace H := ite_t h50 H
 refine GoC.seq ?_
 refine GoC.region ?_
 refine GoO.pure (ps_fieldAddr rfl rfl) ?_
 refine GoO.pure (ps_load rfl At.p4 At.p4 Nat.zero_lt_one rfl rfl) ?_
 refine GoO.pure (ps_len rfl (by constructor) rfl) ?_
 refine GoO.lenLe (n := g.as.length) (x := .tmp 69) rfl (by constructor) sl_lenLe (fun ml51 => ?_)
 refine GoO.pure (ps_move rfl rfl) ?_
 refine GoO.nil ?_
 refine GoK.code ?_
 have hb := bind_l H; clear H
 obtain ⟨q54, hl63, HK52⟩ := hb
 refine GoC.blockJ [(1, slD steps), (2, .ptr β1 2 0 0), (8, .v (.int .i64 r16))] [.one β15 3 1 (row r14), .one β10 3 1 (row ([0, 1, 0] : List Int)), .one β6 3 1 (row r5), .one β3 32 3 (row r2.as), .one β1 24 2 (st1 (nth [.v (.int .i64 g.n), slD g.as]))] (fun v h => q54 = .go () ∧ v = [] ∧ h = []) ?_ ?_
 refine GoC.loopJ [(1, _), (2, _), (7, _), (8, _), (69, _), (70, _)] [_, _, _, _, _] (fun m v h => ∃ (k55 : Nat), (k55 + m = g.as.length ∧ forC (weirkeep_WalkOdd_B1 g r14) m k55 () = some q54) ∧ v = [(71, .v (.int .i64 ((k55 : Nat) : Int)))] ∧ h = []) g.as.length ⟨_, ⟨by omega, hl63⟩, rfl, rfl⟩ (EnvD.eq rfl (EnvD.eq rfl (EnvD.eq rfl (EnvD.eq rfl (EnvD.eq rfl (EnvD.eq rfl (EnvD.eq rfl (EnvD.nil)))))))) (TkD.cons _ _ _ _ _ Rem.p0 (HLe.refl _) (TkD.cons _ _ _ _ _ Rem.p0 (HLe.refl _) (TkD.cons _ _ _ _ _ Rem.p0 (HLe.refl _) (TkD.cons _ _ _ _ _ Rem.p0 (HLe.refl _) (TkD.cons _ _ _ _ _ Rem.p0 (HLe.refl _) (TkD.nil _)))))) ?_
 rintro m56 v h ⟨k55, ⟨hkk55, hF53⟩, rfl, rfl⟩
 refine GoC.seq ?_
 refine GoC.region ?_
 refine GoO.pure (ps_lss rfl rfl rfl) ?_
 refine GoO.nil ?_
 refine GoK.code ?_
 refine GoC.seq ?_
 refine GoC.condD rfl (fun (hk55 : (k55 : Int) < ((g.as.length : Nat) : Int)) => ?_) (fun (hk55 : ¬ (k55 : Int) < ((g.as.length : Nat) : Int)) => ?_)
 obtain ⟨m56', rfl⟩ : ∃ x, m56 = x + 1 := ⟨m56 - 1, by omega⟩
 have hb := bind_l hF53; clear hF53
 obtain ⟨qrm56, H, hF53⟩ := hb
 have hnk55 : k55 < g.as.length := by omega
 have hIk55 : InI ((k55 : Int) + 1) := inI_len hk55 ml51
 refine GoC.skip ?_
 refine GoK.code ?_
 refine GoC.seq ?_
 refine GoC.block ?_
 refine GoC.seq ?_
 refine GoC.region ?_
 refine GoO.pure (ps_indexAddrRN rfl rfl hnk55 rfl) ?_
 refine GoO.pure (ps_loadAgR rfl hnk55 rfl rfl) ?_
 refine GoO.effB (ef_alloc rfl) (fun β57 => ?_)
 refine GoO.eff1 (ef_storeAg rfl rfl At.p0 upd_whole Nat.zero_lt_one rfl) ?_
 refine GoO.nil ?_
 refine GoK.code ?_
 refine GoC.seq ?_
 refine GoC.drawA (.q 0 (.q 1 (.q 2 (.q 3 (.q 4 (.q 5 (.q 6 (.q 7 (.q 8 (.q 9 (.q 10 (.q 11 (.q 12 (.q 13 (.q 14 (.q 15 (.q 16 (.q 17 (.q 18 (.q 19 (.q 20 (.q 21 (.q 22 (.q 23 (.q 24 (.q 25 (.q 26 (.q 27 (.q 28 (.done)))))))))))))))))))))))))))))) follows (by kernel_rfl) ?_
 refine GoP.qN rfl (ps_move rfl rfl) ?_
 refine GoP.qN rfl (ps_fieldAddr rfl rfl) ?_
 refine GoP.qN rfl (ps_load rfl At.p0 At.p0 Nat.zero_lt_one rfl rfl) ?_
 have c58 := ck_l H; replace H := ck_r H
 refine GoP.qN rfl (ps_indexAddr0 rfl rfl c58 rfl) ?_
 refine GoP.qN rfl (ps_load rfl At.p1 At.p1 (idx_lt c58) rfl rfl) ?_
 refine GoP.qN rfl (ps_move rfl rfl) ?_
 refine GoP.qN rfl (ps_fieldAddr rfl rfl) ?_
 refine GoP.qN rfl (ps_load rfl At.p0 At.p0 Nat.zero_lt_one rfl rfl) ?_
 have c59 := ck_l H; replace H := ck_r H
 refine GoP.qN rfl (ps_indexAddr0 rfl rfl c59 rfl) ?_
 refine GoP.qN rfl (ps_load rfl At.p1 At.p1 (idx_lt c59) rfl rfl) ?_
 refine GoP.qN rfl (ps_eql rfl rfl rfl) ?_
 refine GoP.qN rfl (ps_move rfl rfl) ?_
 refine GoP.decideD 86 rfl (fun h60 => ?_) (fun h60 => ?_)
 replace H := ite_t h60 H
 refine GoP.qF rfl rfl rfl rfl rfl ?_
 refine GoP.qF rfl rfl rfl rfl rfl ?_
 refine GoP.qF rfl rfl rfl rfl rfl ?_
 refine GoP.qF rfl rfl rfl rfl rfl ?_
 refine GoP.qF rfl rfl rfl rfl rfl ?_
 refine GoP.qF rfl rfl rfl rfl rfl ?_
 refine GoP.qF rfl rfl rfl rfl rfl ?_
 refine GoP.qN rfl (ps_pickT rfl rfl rfl) ?_
 refine GoP.qN rfl (ps_move rfl rfl) ?_
 refine GoP.qF rfl rfl rfl rfl rfl ?_
 refine GoP.qF rfl rfl rfl rfl rfl ?_
 refine GoP.qF rfl rfl rfl rfl rfl ?_
 refine GoP.qF rfl rfl rfl rfl rfl ?_
 refine GoP.qF rfl rfl rfl rfl rfl ?_
 refine GoP.qF rfl rfl rfl rfl rfl ?_
 refine GoP.qF rfl rfl rfl rfl rfl ?_
 refine GoP.qN rfl (ps_pickT rfl rfl rfl) ?_
 refine GoP.done ?_
 refine GoK.code ?_
 refine GoC.condT rfl ?_
 refine GoC.seq ?_
 refine GoC.region ?_
 refine GoO.pure (ps_assign rfl rfl) ?_
 refine GoO.nil ?_
 refine GoK.code ?_
 obtain rfl := Option.some.inj H
 obtain rfl := Option.some.inj hF53
 obtain rfl := Option.some.inj HK52
 obtain rfl := Option.some.inj HK48
 exact GoC.retL (ds := [.v (.bool false)]) Try.results11 (ResL.cons (ResD.tmp rfl) (ResL.nil)) (Take.nil _) ⟨rfl, rfl⟩
 replace H := ite_f h60 H
 refine GoP.qT rfl rfl rfl rfl (ps_move rfl rfl) ?_
 refine GoP.qT rfl rfl rfl rfl (ps_fieldAddr rfl rfl) ?_
 refine GoP.qT rfl rfl rfl rfl (ps_load rfl At.p0 At.p0 Nat.zero_lt_one rfl rfl) ?_
 refine GoP.qT rfl rfl rfl rfl (ps_indexAddr0 rfl rfl c58 rfl) ?_
 refine GoP.qT rfl rfl rfl rfl (ps_load rfl At.p1 At.p1 (idx_lt c58) rfl rfl) ?_
 refine GoP.qT rfl rfl rfl rfl (ps_shr rfl rfl rfl (by decide)) ?_
 refine GoP.qT rfl rfl rfl rfl (ps_neq rfl rfl rfl) ?_
 refine GoP.qN rfl (ps_pickF rfl rfl rfl) ?_
 refine GoP.qN rfl (ps_move rfl rfl) ?_
 refine GoP.decideD 95 rfl (fun h61 => ?_) (fun h61 => ?_)
 replace H := ite_t h61 H
 refine GoP.qF rfl rfl rfl rfl rfl ?_
 refine GoP.qF rfl rfl rfl rfl rfl ?_
 refine GoP.qF rfl rfl rfl rfl rfl ?_
 refine GoP.qF rfl rfl rfl rfl rfl ?_
 refine GoP.qF rfl rfl rfl rfl rfl ?_
 refine GoP.qF rfl rfl rfl rfl rfl ?_
 refine GoP.qF rfl rfl rfl rfl rfl ?_
 refine GoP.qN rfl (ps_pickT rfl rfl rfl) ?_
 refine GoP.done ?_
 refine GoK.code ?_
 refine GoC.condT rfl ?_
 refine GoC.seq ?_
 refine GoC.region ?_
 refine GoO.pure (ps_assign rfl rfl) ?_
 refine GoO.nil ?_
 refine GoK.code ?_
 obtain rfl := Option.some.inj H
 obtain rfl := Option.some.inj hF53
 obtain rfl := Option.some.inj HK52
 obtain rfl := Option.some.inj HK48
 exact GoC.retL (ds := [.v (.bool false)]) Try.results11 (ResL.cons (ResD.tmp rfl) (ResL.nil)) (Take.nil _) ⟨rfl, rfl⟩
 replace H := ite_f h61 H
 refine GoP.qT rfl rfl rfl rfl (ps_move rfl rfl) ?_
 refine GoP.qT rfl rfl rfl rfl (ps_fieldAddr rfl rfl) ?_
 refine GoP.qT rfl rfl rfl rfl (ps_load rfl At.p0 At.p0 Nat.zero_lt_one rfl rfl) ?_
 refine GoP.qT rfl rfl rfl rfl (ps_indexAddr0 rfl rfl c59 rfl) ?_
 refine GoP.qT rfl rfl rfl rfl (ps_load rfl At.p1 At.p1 (idx_lt c59) rfl rfl) ?_
 refine GoP.qT rfl rfl rfl rfl (ps_shr rfl rfl rfl (by decide)) ?_
 refine GoP.qT rfl rfl rfl rfl (ps_neq rfl rfl rfl) ?_
 refine GoP.qN rfl (ps_pickF rfl rfl rfl) ?_
 refine GoP.done ?_
 refine GoK.code ?_
 refine GoC.condD rfl (fun h62 => ?_) (fun h62 => ?_)
 replace H := ite_t h62 H
 refine GoC.seq ?_
 refine GoC.region ?_
 refine GoO.pure (ps_assign rfl rfl) ?_
 refine GoO.nil ?_
 refine GoK.code ?_
 obtain rfl := Option.some.inj H
 obtain rfl := Option.some.inj hF53
 obtain rfl := Option.some.inj HK52
 obtain rfl := Option.some.inj HK48
 exact GoC.retL (ds := [.v (.bool false)]) Try.results11 (ResL.cons (ResD.tmp rfl) (ResL.nil)) (Take.nil _) ⟨rfl, rfl⟩
 replace H := ite_f h62 H
 refine GoC.skip ?_
 refine GoK.blk ?_
 refine GoK.code ?_
 refine GoC.region ?_
 refine GoO.pure (ps_add rfl rfl rfl hIk55) ?_
 refine GoO.pure (ps_move rfl rfl) ?_
 refine GoO.nil ?_
 obtain rfl := Option.some.inj H
 exact GoK.againJ m56' (by omega) ⟨_, ⟨by omega, hF53⟩, rfl, rfl⟩ (EnvD.eq rfl (EnvD.eq rfl (EnvD.eq rfl (EnvD.eq rfl (EnvD.eq rfl (EnvD.eq rfl (EnvD.eq rfl (EnvD.nil)))))))) (TkD.cons _ _ _ _ _ Rem.p1 (HLe.refl _) (TkD.cons _ _ _ _ _ Rem.p1 (HLe.refl _) (TkD.cons _ _ _ _ _ Rem.p1 (HLe.refl _) (TkD.cons _ _ _ _ _ Rem.p1 (HLe.refl _) (TkD.cons _ _ _ _ _ Rem.p1 (HLe.refl _) (TkD.nil _))))))
 obtain rfl : m56 = 0 := by omega
 refine GoC.exit rfl ?_
 cases hF53
 exact GoK.meet ⟨rfl, rfl, rfl⟩ (EnvD.eq rfl (EnvD.eq rfl (EnvD.eq rfl (EnvD.nil)))) (TkD.cons _ _ _ _ _ Rem.p0 (HLe.refl _) (TkD.cons _ _ _ _ _ Rem.p0 (HLe.refl _) (TkD.cons _ _ _ _ _ Rem.p0 (HLe.refl _) (TkD.cons _ _ _ _ _ Rem.p0 (HLe.refl _) (TkD.cons _ _ _ _ _ Rem.p0 (HLe.st ⟨⟨trivial, DLe.refl _⟩, DLe.refl _⟩) (TkD.nil _))))))
 rintro v h ⟨rfl, rfl, rfl⟩
 have H := HK52; clear HK52
 obtain rfl := Option.some.inj H
 exact GoK.meet ⟨rfl, rfl, rfl⟩ (EnvD.eq rfl (EnvD.eq rfl (EnvD.eq rfl (EnvD.nil)))) (TkD.cons _ _ _ _ _ Rem.p0 (HLe.refl _) (TkD.cons _ _ _ _ _ Rem.p0 (HLe.refl _) (TkD.cons _ _ _ _ _ Rem.p0 (HLe.refl _) (TkD.cons _ _ _ _ _ Rem.p0 (HLe.refl _) (TkD.cons _ _ _ _ _ Rem.p0 (HLe.st ⟨⟨trivial, DLe.refl _⟩, DLe.refl _⟩) (TkD.nil _))))))
 replace H := ite_f h50 H
 refine GoC.skip ?_
 obtain rfl := Option.some.inj H
 exact GoK.meet ⟨rfl, rfl, rfl⟩ (EnvD.eq rfl (EnvD.eq rfl (EnvD.eq rfl (EnvD.nil)))) (TkD.cons _ _ _ _ _ Rem.p0 (HLe.refl _) (TkD.cons _ _ _ _ _ Rem.p0 (HLe.refl _) (TkD.cons _ _ _ _ _ Rem.p0 (HLe.refl _) (TkD.cons _ _ _ _ _ Rem.p0 (HLe.refl _) (TkD.cons _ _ _ _ _ Rem.p0 (HLe.st ⟨⟨trivial, DLe.refl _⟩, DLe.refl _⟩) (TkD.nil _))))))
 rintro v h ⟨rfl, rfl, rfl⟩
 have H := HK48; clear HK48
 refine GoC.seq ?_
 refine GoC.region ?_
 refine GoO.pure (ps_fieldAddr rfl rfl) ?_
 refine GoO.pure (ps_load rfl At.p4 At.p4 Nat.zero_lt_one rfl rfl) ?_
 have c64 := ck_l H; replace H := ck_r H
 refine GoO.pure (ps_indexAddrRN (i := 0) rfl rfl c64 rfl) ?_
 refine GoO.pure (ps_fieldAddrR rfl rfl) ?_
 refine GoO.pure (ps_loadR rfl c64 rfl rfl) ?_
 refine GoO.pure (ps_assign rfl rfl) ?_
 refine GoO.nil ?_
 refine GoK.code ?_
 refine GoC.seq ?_
 refine GoC.region ?_
 refine GoO.pure (ps_move rfl rfl) ?_
 refine GoO.pure (ps_assign rfl rfl) ?_
 refine GoO.pure (ps_assign rfl rfl) ?_
 refine GoO.nil ?_
 refine GoK.code ?_
 refine GoC.seq ?_
 refine GoC.seq ?_
 refine GoC.region ?_
 refine GoO.pure (ps_move rfl rfl) ?_
 refine GoO.pure (ps_len rfl (by constructor) rfl) ?_
 refine GoO.lenLe (n := steps.length) (x := .tmp 111) rfl (by constructor) sl_lenLe (fun ml65 => ?_)
 refine GoO.pure (ps_move rfl rfl) ?_
 refine GoO.nil ?_
 refine GoK.code ?_
 have hb := bind_l H; clear H
 obtain ⟨q70, hl91, HK68⟩ := hb
 refine GoC.blockJ [] [.one β15 3 1 (row r14), .one β10 3 1 (row ([0, 1, 0] : List Int)), .one β6 3 1 (row r5), .one β3 32 3 (row r2.as), .one β1 24 2 (st1 (nth [.v (.int .i64 g.n), slD g.as]))] (fun v h => ∃ (x71 : Int) (n72 : Nat), q70 = .go (x71, n72) ∧ v = [] ∧ h = []) ?_ ?_
 refine GoC.loopJ [(2, _), (8, _), (12, _), (111, _), (112, _)] [_, _, _, _, _] (fun m v h => ∃ (k73 : Nat) (x66 : Int) (n67 : Nat), (k73 + m = steps.length ∧ forC (weirkeep_WalkOdd_B2 g steps r16) m k73 (x66, n67) = some q70) ∧ v = [(113, .v (.int .i64 ((k73 : Nat) : Int))), (11, .v (.int .i64 x66)), (13, .v (.int .i64 ((n67 : Nat) : Int)))] ∧ h = []) steps.length ⟨_, _, _, ⟨by omega, hl91⟩, rfl, rfl⟩ (EnvD.eq rfl (EnvD.eq rfl (EnvD.eq rfl (EnvD.eq rfl (EnvD.eq rfl (EnvD.eq rfl (EnvD.eq rfl (EnvD.eq rfl (EnvD.nil))))))))) (TkD.cons _ _ _ _ _ Rem.p0 (HLe.refl _) (TkD.cons _ _ _ _ _ Rem.p0 (HLe.refl _) (TkD.cons _ _ _ _ _ Rem.p0 (HLe.refl _) (TkD.cons _ _ _ _ _ Rem.p0 (HLe.refl _) (TkD.cons _ _ _ _ _ Rem.p0 (HLe.refl _) (TkD.nil _)))))) ?_
 rintro m74 v h ⟨k73, x66, n67, ⟨hkk73, hF69⟩, rfl, rfl⟩
 refine GoC.seq ?_
 refine GoC.region ?_
 refine GoO.pure (ps_lss rfl rfl rfl) ?_
 refine GoO.nil ?_
 refine GoK.code ?_
 refine GoC.seq ?_
 refine GoC.condD rfl (fun (hk73 : (k73 : Int) < ((steps.length : Nat) : Int)) => ?_) (fun (hk73 : ¬ (k73 : Int) < ((steps.length : Nat) : Int)) => ?_)
 obtain ⟨m74', rfl⟩ : ∃ x, m74 = x + 1 := ⟨m74 - 1, by omega⟩
 have hb := bind_l hF69; clear hF69
 obtain ⟨qrm74, H, hF69⟩ := hb
 have hnk73 : k73 < steps.length := by omega
 have hIk73 : InI ((k73 : Int) + 1) := inI_len hk73 ml65
 refine GoC.skip ?_
 refine GoK.code ?_
 refine GoC.seq ?_
 refine GoC.block ?_
 refine GoC.seq ?_
 refine GoC.region ?_
 refine GoO.pure (ps_indexAddrRN rfl rfl hnk73 rfl) ?_
 refine GoO.pure (ps_loadR rfl hnk73 rfl rfl) ?_
 refine GoO.pure (ps_assign rfl rfl) ?_
 refine GoO.nil ?_
 refine GoK.code ?_
 refine GoC.seq ?_
 refine GoC.drawA (.q 0 (.q 1 (.q 2 (.q 3 (.q 4 (.q 5 (.two 6 9 (.q 7 (.q 8 (.one 9 (.one 10 (.done))))) (.one 6 (.q 7 (.q 8 (.one 10 (.done)))))))))))) follows (by kernel_rfl) ?_
 refine GoP.qN rfl (ps_fieldAddr rfl rfl) ?_
 refine GoP.qN rfl (ps_load rfl At.p4 At.p4 Nat.zero_lt_one rfl rfl) ?_
 refine GoP.qN rfl (ps_move rfl rfl) ?_
 refine GoP.qN rfl (ps_fieldAddr rfl rfl) ?_
 refine GoP.qN rfl (ps_load rfl At.p4 At.p4 Nat.zero_lt_one rfl rfl) ?_
 refine GoP.qN rfl (ps_len rfl (by constructor) rfl) ?_
 have hb := bind_l H; clear H
 obtain ⟨r75, e76, H⟩ := hb
 have c77 := ck_l H; replace H := ck_r H
 apply GoP.fork1
 exact rfl
 exact rfl
 exact trivial
 exact trivial
 exact ef_call rfl (Take.nil _) (Take.nil _) (weirref_Rest_spec (steps.getD k73 (0 : Int)) ((g.as.length : Nat) : Int) e76) (LendL.cons (Lend.refl _ _) (LendL.cons (Lend.refl _ _) (LendL.nil))) rfl (weirref_Rest_I (r75))
 exact ef_alloc rfl
 exact (Take.cons _ _ _ _ _ Rem.p0 (Take.cons _ _ _ _ _ Rem.p0 (Take.cons _ _ _ _ _ Rem.p0 (Take.cons _ _ _ _ _ Rem.p0 (Take.cons _ _ _ _ _ Rem.p0 (Take.nil _))))))
 exact (Take.cons _ _ _ _ _ Rem.p0 (Take.cons _ _ _ _ _ Rem.p0 (Take.cons _ _ _ _ _ Rem.p0 (Take.cons _ _ _ _ _ Rem.p0 (Take.cons _ _ _ _ _ Rem.p0 (Take.nil _))))))
 intro hQ
 rintro _ ⟨_, _, hp, rfl⟩
 obtain ⟨rfl, rfl⟩ := hp
 refine GoP.qN rfl (ps_indexAddrR rfl rfl c77 rfl) ?_
 refine GoP.qN rfl (ps_loadAgR rfl (idx_lt c77) rfl rfl) ?_
 refine GoP.oneB rfl trivial (ef_alloc rfl) (Take.cons _ _ _ _ _ Rem.p0 (Take.cons _ _ _ _ _ Rem.p0 (Take.cons _ _ _ _ _ Rem.p0 (Take.cons _ _ _ _ _ Rem.p0 (Take.cons _ _ _ _ _ Rem.p0 (Take.nil _)))))) (fun β80 => ?_)
 refine GoP.one1 rfl trivial (ef_storeAg rfl rfl At.p0 upd_whole Nat.zero_lt_one rfl) (Take.cons _ _ _ _ _ Rem.p0 (Take.cons _ _ _ _ _ Rem.p0 (Take.cons _ _ _ _ _ Rem.p0 (Take.cons _ _ _ _ _ Rem.p0 (Take.cons _ _ _ _ _ Rem.p0 (Take.cons _ _ _ _ _ Rem.p0 (Take.nil _))))))) ?_
 exact GoP.done (hQ β80)
 intro hQ
 rintro _ ⟨β79, rfl⟩
 refine GoP.oneC rfl trivial (ef_call rfl (Take.nil _) (Take.nil _) (weirref_Rest_spec (steps.getD k73 (0 : Int)) ((g.as.length : Nat) : Int) e76) (LendL.cons (Lend.refl _ _) (LendL.cons (Lend.refl _ _) (LendL.nil))) rfl (weirref_Rest_I (r75))) (Take.cons _ _ _ _ _ Rem.p1 (Take.cons _ _ _ _ _ Rem.p1 (Take.cons _ _ _ _ _ Rem.p1 (Take.cons _ _ _ _ _ Rem.p1 (Take.cons _ _ _ _ _ Rem.p1 (Take.nil _)))))) (fun rr HH hp => ?_)
 obtain ⟨rfl, rfl⟩ := hp
 refine GoP.qN rfl (ps_indexAddrR rfl rfl c77 rfl) ?_
 refine GoP.qN rfl (ps_loadAgR rfl (idx_lt c77) rfl rfl) ?_
 refine GoP.one1 rfl trivial (ef_storeAg rfl rfl At.p0 upd_whole Nat.zero_lt_one rfl) (Take.cons _ _ _ _ _ Rem.p0 (Take.cons _ _ _ _ _ Rem.p0 (Take.cons _ _ _ _ _ Rem.p0 (Take.cons _ _ _ _ _ Rem.p0 (Take.cons _ _ _ _ _ Rem.p0 (Take.cons _ _ _ _ _ Rem.p0 (Take.nil _))))))) ?_
 refine GoP.done (GoK.le ?_ (hQ β79))
 refine Le.ofDW ?_ (TkD.cons _ _ _ _ _ Rem.p0 (HLe.refl _) (TkD.cons _ _ _ _ _ Rem.p0 (HLe.refl _) (TkD.cons _ _ _ _ _ Rem.p0 (HLe.refl _) (TkD.cons _ _ _ _ _ Rem.p0 (HLe.refl _) (TkD.cons _ _ _ _ _ Rem.p0 (HLe.refl _) (TkD.cons _ _ _ _ _ Rem.p0 (HLe.refl _) (TkD.nil _)))))))
 repeat (first | exact EnvLeW.nil | refine EnvLeW.cons rfl ?_ | refine EnvLeW.skip rfl ?_)
 intro β80
 refine GoK.code ?_
 refine GoC.seq ?_
 refine GoC.seq ?_
 refine GoC.region ?_
 refine GoO.pure (ps_move rfl rfl) ?_
 refine GoO.nil ?_
 refine GoK.code ?_
 refine GoC.block ?_
 refine GoC.seq ?_
 refine GoC.region ?_
 refine GoO.pure (ps_fieldAddr rfl rfl) ?_
 refine GoO.pure (ps_load rfl At.p0 At.p0 Nat.zero_lt_one rfl rfl) ?_
 refine GoO.pure (ps_eql rfl rfl rfl) ?_
 refine GoO.pure (ps_assign rfl rfl) ?_
 refine GoO.nil ?_
 refine GoK.code ?_
 refine GoC.condD rfl (fun h81 => ?_) (fun h81 => ?_)
 replace H := ite_t h81 H
 refine GoC.region ?_
 refine GoO.pure (ps_fieldAddr rfl rfl) ?_
 refine GoO.pure (ps_load rfl At.p0 At.p0 Nat.zero_lt_one rfl rfl) ?_
 refine GoO.pure (ps_assign rfl rfl) ?_
 refine GoO.nil ?_
 refine GoK.blk ?_
 refine GoK.code ?_
 refine GoC.seq ?_
 refine GoC.region ?_
 refine GoO.pure (ps_move rfl rfl) ?_
 have c82 := ck_l H; replace H := ck_r H
 refine GoO.pure (ps_add rfl rfl rfl c82) ?_
 refine GoO.pure (ps_assign rfl rfl) ?_
 refine GoO.nil ?_
 refine GoK.code ?_
 refine GoC.seq ?_
 refine GoC.region ?_
 refine GoO.pure (ps_move rfl rfl) ?_
 refine GoO.pure (ps_move rfl rfl) ?_
 refine GoO.pure (ps_eql rfl rfl rfl) ?_
 refine GoO.pure (ps_move rfl rfl) ?_
 refine GoO.guardD rfl rfl rfl rfl (fun h83 => ?_) (fun h83 => ?_)
 replace H := ite_t h83 H
 refine GoO.pure (ps_move rfl rfl) ?_
 refine GoO.guardT rfl rfl rfl ?_
 refine GoO.pure (ps_rem rfl rfl rfl (by decide)) ?_
 refine GoO.guardT rfl rfl rfl ?_
 refine GoO.pure (ps_eql rfl rfl rfl) ?_
 refine GoO.pure (ps_pickT rfl rfl rfl) ?_
 refine GoO.pure (ps_move rfl rfl) ?_
 refine GoO.guardD rfl rfl rfl rfl (fun h84 => ?_) (fun h84 => ?_)
 replace H := ite_t h84 H
 refine GoO.pure (ps_move rfl rfl) ?_
 refine GoO.guardT rfl rfl rfl ?_
 refine GoO.pure (ps_eql rfl rfl rfl) ?_
 refine GoO.pure (ps_pickT rfl rfl rfl) ?_
 refine GoO.nil ?_
 refine GoK.code ?_
 refine GoC.condD rfl (fun h85 => ?_) (fun h85 => ?_)
 replace H := ite_t h85 H
 refine GoC.seq ?_
 refine GoC.region ?_
 refine GoO.pure (ps_assign rfl rfl) ?_
 refine GoO.nil ?_
 refine GoK.code ?_
 obtain rfl := Option.some.inj H
 obtain rfl := Option.some.inj hF69
 obtain rfl := Option.some.inj HK68
 exact GoC.retL (ds := [.v (.bool false)]) Try.results11 (ResL.cons (ResD.tmp rfl) (ResL.nil)) (Take.nil _) ⟨rfl, rfl⟩
 replace H := ite_f h85 H
 refine GoC.skip ?_
 refine GoK.blk ?_
 refine GoK.code ?_
 refine GoC.region ?_
 refine GoO.pure (ps_add rfl rfl rfl hIk73) ?_
 refine GoO.pure (ps_move rfl rfl) ?_
 refine GoO.nil ?_
 obtain rfl := Option.some.inj H
 exact GoK.againJ m74' (by omega) ⟨_, _, _, ⟨by omega, hF69⟩, rfl, rfl⟩ (EnvD.eq rfl (EnvD.eq rfl (EnvD.eq rfl (EnvD.eq rfl (EnvD.eq rfl (EnvD.eq rfl (EnvD.eq rfl (EnvD.eq rfl (EnvD.nil))))))))) (TkD.cons _ _ _ _ _ Rem.p1 (HLe.refl _) (TkD.cons _ _ _ _ _ Rem.p1 (HLe.refl _) (TkD.cons _ _ _ _ _ Rem.p1 (HLe.refl _) (TkD.cons _ _ _ _ _ Rem.p1 (HLe.refl _) (TkD.cons _ _ _ _ _ Rem.p1 (HLe.refl _) (TkD.nil _))))))
 replace H := ite_f h84 H
 refine GoO.guardF rfl rfl rfl rfl ?_
 refine GoO.pure (ps_pickF rfl rfl rfl) ?_
 refine GoO.nil ?_
 refine GoK.code ?_
 refine GoC.condF rfl ?_
 refine GoC.skip ?_
 refine GoK.blk ?_
 refine GoK.code ?_
 refine GoC.region ?_
 refine GoO.pure (ps_add rfl rfl rfl hIk73) ?_
 refine GoO.pure (ps_move rfl rfl) ?_
 refine GoO.nil ?_
 obtain rfl := Option.some.inj H
 exact GoK.againJ m74' (by omega) ⟨_, _, _, ⟨by omega, hF69⟩, rfl, rfl⟩ (EnvD.eq rfl (EnvD.eq rfl (EnvD.eq rfl (EnvD.eq rfl (EnvD.eq rfl (EnvD.eq rfl (EnvD.eq rfl (EnvD.eq rfl (EnvD.nil))))))))) (TkD.cons _ _ _ _ _ Rem.p1 (HLe.refl _) (TkD.cons _ _ _ _ _ Rem.p1 (HLe.refl _) (TkD.cons _ _ _ _ _ Rem.p1 (HLe.refl _) (TkD.cons _ _ _ _ _ Rem.p1 (HLe.refl _) (TkD.cons _ _ _ _ _ Rem.p1 (HLe.refl _) (TkD.nil _))))))
 replace H := ite_f h83 H
 refine GoO.guardF rfl rfl rfl rfl ?_
 refine GoO.guardF rfl rfl rfl rfl ?_
 refine GoO.pure (ps_pickF rfl rfl rfl) ?_
 refine GoO.pure (ps_move rfl rfl) ?_
 refine GoO.guardF rfl rfl rfl rfl ?_
 refine GoO.guardF rfl rfl rfl rfl ?_
 refine GoO.pure (ps_pickF rfl rfl rfl) ?_
 refine GoO.nil ?_
 refine GoK.code ?_
 refine GoC.condF rfl ?_
 refine GoC.skip ?_
 refine GoK.blk ?_
 refine GoK.code ?_
 refine GoC.region ?_
 refine GoO.pure (ps_add rfl rfl rfl hIk73) ?_
 refine GoO.pure (ps_move rfl rfl) ?_
 refine GoO.nil ?_
 obtain rfl := Option.some.inj H
 exact GoK.againJ m74' (by omega) ⟨_, _, _, ⟨by omega, hF69⟩, rfl, rfl⟩ (EnvD.eq rfl (EnvD.eq rfl (EnvD.eq rfl (EnvD.eq rfl (EnvD.eq rfl (EnvD.eq rfl (EnvD.eq rfl (EnvD.eq rfl (EnvD.nil))))))))) (TkD.cons _ _ _ _ _ Rem.p1 (HLe.refl _) (TkD.cons _ _ _ _ _ Rem.p1 (HLe.refl _) (TkD.cons _ _ _ _ _ Rem.p1 (HLe.refl _) (TkD.cons _ _ _ _ _ Rem.p1 (HLe.refl _) (TkD.cons _ _ _ _ _ Rem.p1 (HLe.refl _) (TkD.nil _))))))
 replace H := ite_f h81 H
 refine GoC.seq ?_
 refine GoC.region ?_
 refine GoO.pure (ps_fieldAddr rfl rfl) ?_
 refine GoO.pure (ps_load rfl At.p0 At.p0 Nat.zero_lt_one rfl rfl) ?_
 refine GoO.pure (ps_eql rfl rfl rfl) ?_
 refine GoO.pure (ps_assign rfl rfl) ?_
 refine GoO.nil ?_
 refine GoK.code ?_
 refine GoC.condD rfl (fun h86 => ?_) (fun h86 => ?_)
 replace H := ite_t h86 H
 refine GoC.region ?_
 refine GoO.pure (ps_fieldAddr rfl rfl) ?_
 refine GoO.pure (ps_load rfl At.p0 At.p0 Nat.zero_lt_one rfl rfl) ?_
 refine GoO.pure (ps_assign rfl rfl) ?_
 refine GoO.nil ?_
 refine GoK.blk ?_
 refine GoK.code ?_
 refine GoC.seq ?_
 refine GoC.region ?_
 refine GoO.pure (ps_move rfl rfl) ?_
 have c87 := ck_l H; replace H := ck_r H
 refine GoO.pure (ps_add rfl rfl rfl c87) ?_
 refine GoO.pure (ps_assign rfl rfl) ?_
 refine GoO.nil ?_
 refine GoK.code ?_
 refine GoC.seq ?_
 refine GoC.region ?_
 refine GoO.pure (ps_move rfl rfl) ?_
 refine GoO.pure (ps_move rfl rfl) ?_
 refine GoO.pure (ps_eql rfl rfl rfl) ?_
 refine GoO.pure (ps_move rfl rfl) ?_
 refine GoO.guardD rfl rfl rfl rfl (fun h88 => ?_) (fun h88 => ?_)
 replace H := ite_t h88 H
 refine GoO.pure (ps_move rfl rfl) ?_
 refine GoO.guardT rfl rfl rfl ?_
 refine GoO.pure (ps_rem rfl rfl rfl (by decide)) ?_
 refine GoO.guardT rfl rfl rfl ?_
 refine GoO.pure (ps_eql rfl rfl rfl) ?_
 refine GoO.pure (ps_pickT rfl rfl rfl) ?_
 refine GoO.pure (ps_move rfl rfl) ?_
 refine GoO.guardD rfl rfl rfl rfl (fun h89 => ?_) (fun h89 => ?_)
 replace H := ite_t h89 H
 refine GoO.pure (ps_move rfl rfl) ?_
 refine GoO.guardT rfl rfl rfl ?_
 refine GoO.pure (ps_eql rfl rfl rfl) ?_
 refine GoO.pure (ps_pickT rfl rfl rfl) ?_
 refine GoO.nil ?_
 refine GoK.code ?_
 refine GoC.condD rfl (fun h90 => ?_) (fun h90 => ?_)
 replace H := ite_t h90 H
 refine GoC.seq ?_
 refine GoC.region ?_
 refine GoO.pure (ps_assign rfl rfl) ?_
 refine GoO.nil ?_
 refine GoK.code ?_
 obtain rfl := Option.some.inj H
 obtain rfl := Option.some.inj hF69
 obtain rfl := Option.some.inj HK68
 exact GoC.retL (ds := [.v (.bool false)]) Try.results11 (ResL.cons (ResD.tmp rfl) (ResL.nil)) (Take.nil _) ⟨rfl, rfl⟩
 replace H := ite_f h90 H
 refine GoC.skip ?_
 refine GoK.blk ?_
 refine GoK.code ?_
 refine GoC.region ?_
 refine GoO.pure (ps_add rfl rfl rfl hIk73) ?_
 refine GoO.pure (ps_move rfl rfl) ?_
 refine GoO.nil ?_
 obtain rfl := Option.some.inj H
 exact GoK.againJ m74' (by omega) ⟨_, _, _, ⟨by omega, hF69⟩, rfl, rfl⟩ (EnvD.eq rfl (EnvD.eq rfl (EnvD.eq rfl (EnvD.eq rfl (EnvD.eq rfl (EnvD.eq rfl (EnvD.eq rfl (EnvD.eq rfl (EnvD.nil))))))))) (TkD.cons _ _ _ _ _ Rem.p1 (HLe.refl _) (TkD.cons _ _ _ _ _ Rem.p1 (HLe.refl _) (TkD.cons _ _ _ _ _ Rem.p1 (HLe.refl _) (TkD.cons _ _ _ _ _ Rem.p1 (HLe.refl _) (TkD.cons _ _ _ _ _ Rem.p1 (HLe.refl _) (TkD.nil _))))))
 replace H := ite_f h89 H
 refine GoO.guardF rfl rfl rfl rfl ?_
 refine GoO.pure (ps_pickF rfl rfl rfl) ?_
 refine GoO.nil ?_
 refine GoK.code ?_
 refine GoC.condF rfl ?_
 refine GoC.skip ?_
 refine GoK.blk ?_
 refine GoK.code ?_
 refine GoC.region ?_
 refine GoO.pure (ps_add rfl rfl rfl hIk73) ?_
 refine GoO.pure (ps_move rfl rfl) ?_
 refine GoO.nil ?_
 obtain rfl := Option.some.inj H
 exact GoK.againJ m74' (by omega) ⟨_, _, _, ⟨by omega, hF69⟩, rfl, rfl⟩ (EnvD.eq rfl (EnvD.eq rfl (EnvD.eq rfl (EnvD.eq rfl (EnvD.eq rfl (EnvD.eq rfl (EnvD.eq rfl (EnvD.eq rfl (EnvD.nil))))))))) (TkD.cons _ _ _ _ _ Rem.p1 (HLe.refl _) (TkD.cons _ _ _ _ _ Rem.p1 (HLe.refl _) (TkD.cons _ _ _ _ _ Rem.p1 (HLe.refl _) (TkD.cons _ _ _ _ _ Rem.p1 (HLe.refl _) (TkD.cons _ _ _ _ _ Rem.p1 (HLe.refl _) (TkD.nil _))))))
 replace H := ite_f h88 H
 refine GoO.guardF rfl rfl rfl rfl ?_
 refine GoO.guardF rfl rfl rfl rfl ?_
 refine GoO.pure (ps_pickF rfl rfl rfl) ?_
 refine GoO.pure (ps_move rfl rfl) ?_
 refine GoO.guardF rfl rfl rfl rfl ?_
 refine GoO.guardF rfl rfl rfl rfl ?_
 refine GoO.pure (ps_pickF rfl rfl rfl) ?_
 refine GoO.nil ?_
 refine GoK.code ?_
 refine GoC.condF rfl ?_
 refine GoC.skip ?_
 refine GoK.blk ?_
 refine GoK.code ?_
 refine GoC.region ?_
 refine GoO.pure (ps_add rfl rfl rfl hIk73) ?_
 refine GoO.pure (ps_move rfl rfl) ?_
 refine GoO.nil ?_
 obtain rfl := Option.some.inj H
 exact GoK.againJ m74' (by omega) ⟨_, _, _, ⟨by omega, hF69⟩, rfl, rfl⟩ (EnvD.eq rfl (EnvD.eq rfl (EnvD.eq rfl (EnvD.eq rfl (EnvD.eq rfl (EnvD.eq rfl (EnvD.eq rfl (EnvD.eq rfl (EnvD.nil))))))))) (TkD.cons _ _ _ _ _ Rem.p1 (HLe.refl _) (TkD.cons _ _ _ _ _ Rem.p1 (HLe.refl _) (TkD.cons _ _ _ _ _ Rem.p1 (HLe.refl _) (TkD.cons _ _ _ _ _ Rem.p1 (HLe.refl _) (TkD.cons _ _ _ _ _ Rem.p1 (HLe.refl _) (TkD.nil _))))))
 replace H := ite_f h86 H
 refine GoC.exit rfl ?_
 refine GoK.code ?_
 refine GoC.region ?_
 refine GoO.pure (ps_add rfl rfl rfl hIk73) ?_
 refine GoO.pure (ps_move rfl rfl) ?_
 refine GoO.nil ?_
 obtain rfl := Option.some.inj H
 exact GoK.againJ m74' (by omega) ⟨_, _, _, ⟨by omega, hF69⟩, rfl, rfl⟩ (EnvD.eq rfl (EnvD.eq rfl (EnvD.eq rfl (EnvD.eq rfl (EnvD.eq rfl (EnvD.eq rfl (EnvD.eq rfl (EnvD.eq rfl (EnvD.nil))))))))) (TkD.cons _ _ _ _ _ Rem.p1 (HLe.refl _) (TkD.cons _ _ _ _ _ Rem.p1 (HLe.refl _) (TkD.cons _ _ _ _ _ Rem.p1 (HLe.refl _) (TkD.cons _ _ _ _ _ Rem.p1 (HLe.refl _) (TkD.cons _ _ _ _ _ Rem.p1 (HLe.refl _) (TkD.nil _))))))
 obtain rfl : m74 = 0 := by omega
 refine GoC.exit rfl ?_
 cases hF69
 exact GoK.meet ⟨_, _, rfl, rfl, rfl⟩ (EnvD.nil) (TkD.cons _ _ _ _ _ Rem.p0 (HLe.refl _) (TkD.cons _ _ _ _ _ Rem.p0 (HLe.refl _) (TkD.cons _ _ _ _ _ Rem.p0 (HLe.refl _) (TkD.cons _ _ _ _ _ Rem.p0 (HLe.refl _) (TkD.cons _ _ _ _ _ Rem.p0 (HLe.st ⟨⟨trivial, DLe.refl _⟩, DLe.refl _⟩) (TkD.nil _))))))
 rintro v h ⟨x71, n72, rfl, rfl, rfl⟩
 have H := HK68; clear HK68
 refine GoK.code ?_
 refine GoC.seq ?_
 refine GoC.region ?_
 refine GoO.pure (ps_assign rfl rfl) ?_
 refine GoO.nil ?_
 refine GoK.code ?_
 obtain rfl := Option.some.inj H
 exact GoC.retL (ds := [.v (.bool true)]) Try.results11 (ResL.cons (ResD.tmp rfl) (ResL.nil)) (Take.nil _) ⟨rfl, rfl⟩
 replace H := ite_t h9 H
 refine GoO.guardF rfl rfl rfl rfl ?_
 refine GoO.guardF rfl rfl rfl rfl ?_
 refine GoO.guardF rfl rfl rfl rfl ?_
 refine GoO.pure (ps_pickT rfl rfl rfl) ?_
 refine GoO.nil ?_
 refine GoK.code ?_
 refine GoC.condT rfl ?_
 refine GoC.seq ?_
 refine GoC.region ?_
 refine GoO.pure (ps_assign rfl rfl) ?_
 refine GoO.nil ?_
 refine GoK.code ?_
 obtain rfl := Option.some.inj H
 exact GoC.retL (ds := [.v (.bool false)]) Try.results11 (ResL.cons (ResD.tmp rfl) (ResL.nil)) (Take.nil _) ⟨rfl, rfl⟩

end Go.Proofs.Ytmgldjkgneiejaa
