/- The functions weirkeep.ShortThree, told as plain functions, and that the code does as they say. -/
import Derived.Test.YtmgldjkgneiejaaTys
import Derived.Test.YtmgldjkgneiejaaDat
import Derived.Test.YtmgldjkgneiejaaGkeep
import Derived.Test.YtmgldjkgneiejaaGshort
import Derived.Test.YtmgldjkgneiejaaGslices
namespace Go.Proofs.Ytmgldjkgneiejaa
open Go Go.Proofs.Ytmgldjkgneiejaa.Sx
set_option linter.unusedVariables false
set_option linter.unusedSimpArgs false
def weirkeep_ShortThree_B1 (g : Graph) (r19 : (List (List Int))) (r21 : (List (List Bool))) : Nat → Unit → Option (Ct (Unit) (Bool)) := fun k36 _ =>
 if (((r19.getD k36 []).length : Nat) : Int) ≠ g.n then
  some (.ret false)
 else
  ck (k36 < r21.length) <|
  if (((r21.getD k36 []).length : Nat) : Int) ≠ g.n then
   some (.ret false)
  else
   ck (k36 < (r19.getD k36 []).length) <|
   if ((r19.getD k36 []).getD k36 (0 : Int)) ≠ 0 then
    some (.ret false)
   else
    some (.go ())
def weirkeep_ShortThree_B4 (r19 : (List (List Int))) (r21 : (List (List Bool))) (k47 : Nat) (k52 : Nat) : Nat → Unit → Option (Ct (Unit) (Ct (Unit) (Ct (Unit) (Bool)))) := fun k57 _ =>
 ck (k47 < r21.length) <|
 ck (k52 < (r21.getD k47 []).length) <|
 if ((r21.getD k47 []).getD k52 false) = true then
  ck (k52 < r21.length) <|
  ck (k57 < (r21.getD k52 []).length) <|
  if ((r21.getD k52 []).getD k57 false) = true then
   ck (k57 < (r21.getD k47 []).length) <|
   if (!((r21.getD k47 []).getD k57 false)) = true then
    some (.ret (.ret (.ret false)))
   else
    ck (k57 < (r19.getD k47 []).length) <|
    ck (k52 < (r19.getD k47 []).length) <|
    ck (k57 < (r19.getD k52 []).length) <|
    ck (InI (((r19.getD k47 []).getD k52 (0 : Int)) + ((r19.getD k52 []).getD k57 (0 : Int)))) <|
    if (((r19.getD k47 []).getD k52 (0 : Int)) + ((r19.getD k52 []).getD k57 (0 : Int))) < ((r19.getD k47 []).getD k57 (0 : Int)) then
     some (.ret (.ret (.ret false)))
    else
     some (.go ())
  else
   some (.go ())
 else
  some (.go ())
def weirkeep_ShortThree_B3 (r19 : (List (List Int))) (r21 : (List (List Bool))) (k47 : Nat) : Nat → Unit → Option (Ct (Unit) (Ct (Unit) (Bool))) := fun k52 _ =>
 (forC (weirkeep_ShortThree_B4 r19 r21 k47 k52) r19.length 0 ()).bind fun q => match q with
 | .go _ =>
  some (.go ())
 | .ret x => some x
def weirkeep_ShortThree_B2 (r19 : (List (List Int))) (r21 : (List (List Bool))) : Nat → Unit → Option (Ct (Unit) (Bool)) := fun k47 _ =>
 (forC (weirkeep_ShortThree_B3 r19 r21 k47) r19.length 0 ()).bind fun q => match q with
 | .go _ =>
  some (.go ())
 | .ret x => some x
def weirkeep_ShortThree_F (g : Graph) : Option (Bool) :=
 (weirkeep_line_F).bind fun r2 =>
 (short_All_F r2).bind fun (r5, r7, r9) =>
 if r9 ≠ 0 then
  some false
 else
  if ((r5.length : Nat) : Int) ≠ 3 then
   some false
  else
   ck (0 < r5.length) <|
   (slices_Equal_int_F (r5.getD 0 []) ([0, 4, 7] : List Int)).bind fun r16 =>
   if (!r16) = true then
    some false
   else
    (short_All_F g).bind fun (r19, r21, r23) =>
    if r23 ≠ 0 then
     ck (InI (((r19.length : Nat) : Int) + ((r21.length : Nat) : Int))) <|
     some (decide ((((r19.length + r21.length) : Nat) : Int) = 0))
    else
     if ((r19.length : Nat) : Int) ≠ g.n then
      some false
     else
      if ((r21.length : Nat) : Int) ≠ g.n then
       some false
      else
       (forC (weirkeep_ShortThree_B1 g r19 r21) r19.length 0 ()).bind fun q => match q with
       | .go _ =>
        (forC (weirkeep_ShortThree_B2 r19 r21) r19.length 0 ()).bind fun q => match q with
        | .go _ =>
         some true
        | .ret x => some x
       | .ret x => some x
def weirkeep_ShortThree_P (out : Bool) (d : D) (H : List HL) : Prop := d = .v (.bool out) ∧ H = []
theorem weirkeep_ShortThree_I (out : Bool) : IndepP (weirkeep_ShortThree_P out) := IndepP.of (by rintro _ _ ⟨rfl, rfl⟩; exact ⟨inferInstance, inferInstance⟩)
set_option maxRecDepth 100000 in
set_option maxHeartbeats 4000000 in
theorem weirkeep_ShortThree_spec (g : Graph) {out : Bool} (H : weirkeep_ShortThree_F g = some out) : Does Try.prog 7 [.ag 2 (nth [.v (.int .i64 g.n), slD g.as])] [] (weirkeep_ShortThree_P out) := by
 unfold weirkeep_ShortThree_F at H
 refine Does.intro Try.func7 rfl Try.ntmps7 rfl fun w0 I0 => ?_
 refine GoC.seq ?_
 refine GoC.region ?_
 refine GoO.effB (ef_boxAg rfl rfl) (fun β1 => ?_)
 refine GoO.pure (ps_assign rfl rfl) ?_
 refine GoO.nil ?_
 refine GoK.code ?_
 refine GoC.seq ?_
 refine GoC.seq ?_
 refine GoC.region ?_
 have hb := bind_l H; clear H
 obtain ⟨r2, e4, H⟩ := hb
 refine GoO.effC (ef_call rfl (Take.nil _) (Take.nil _) (weirkeep_line_spec e4) (LendL.nil) rfl (weirkeep_line_I (r2))) (fun rr HH hp => ?_)
 obtain ⟨β3, rfl, rfl⟩ := hp
 have hb := bind_l H; clear H
 obtain ⟨⟨r5, r7, r9⟩, e10, H⟩ := hb
 refine GoO.callF rfl (Take.nil _) (Take.cons _ _ _ _ _ Rem.p0 (Take.nil _)) (short_All_spec r2 e10) (LendL.cons (Lend.agA ⟨⟨trivial, Lend.refl _ _⟩, Lend.all' At.p0 (by first | rfl | omega | (simp only [subl_length, List.length_set, List.length_append, List.length_cons, List.length_nil, List.length_replicate, row_len] <;> first | rfl | omega)) rfl⟩) (LendL.nil)) rfl no_fps (fun rr HH hp => ?_)
 obtain ⟨β6, β8, rfl, rfl⟩ := hp
 refine GoO.pure (ps_move rfl rfl) ?_
 refine GoO.pure (ps_extract rfl rfl rfl) ?_
 refine GoO.pure (ps_extract rfl rfl rfl) ?_
 refine GoO.pure (ps_extract rfl rfl rfl) ?_
 refine GoO.pure (ps_assign rfl rfl) ?_
 refine GoO.pure (ps_assign rfl rfl) ?_
 refine GoO.pure (ps_assign rfl rfl) ?_
 refine GoO.nil ?_
 refine GoK.code ?_
 refine GoC.seq ?_
 refine GoC.region ?_
 refine GoO.pure (ps_move rfl rfl) ?_
 refine GoO.pure (ps_neq rfl rfl rfl) ?_
 refine GoO.pure (ps_move rfl rfl) ?_
 refine GoO.guardE rfl rfl rfl rfl (fun h11 => ?_) (fun h11 => ?_)
 replace H := ite_f h11 H
 refine GoO.pure (ps_move rfl rfl) ?_
 refine GoO.guardT rfl rfl rfl ?_
 refine GoO.pure (ps_len rfl (by constructor) rfl) ?_
 refine GoO.lenLe (n := r5.length) (x := .tmp 22) rfl (by constructor) own_lenLe (fun ml12 => ?_)
 refine GoO.guardT rfl rfl rfl ?_
 refine GoO.pure (ps_neq rfl rfl rfl) ?_
 refine GoO.pure (ps_pickF rfl rfl rfl) ?_
 refine GoO.pure (ps_move rfl rfl) ?_
 refine GoO.guardE rfl rfl rfl rfl (fun h13 => ?_) (fun h13 => ?_)
 replace H := ite_f h13 H
 refine GoO.pure (ps_move rfl rfl) ?_
 refine GoO.guardT rfl rfl rfl ?_
 have c14 := ck_l H; replace H := ck_r H
 refine GoO.pure (ps_indexAddr0N (i := 0) rfl rfl c14 rfl) ?_
 refine GoO.guardT rfl rfl rfl ?_
 refine GoO.pure (ps_load rfl At.p0 At.p0 c14 rfl rfl) ?_
 refine GoO.guardT rfl rfl rfl ?_
 refine GoO.effB (ef_buildSlice (row ([0, 4, 7] : List Int)) rfl (Parts.cons _ _ _ _ _ _ _ _ ⟨rfl, rfl⟩ (Part.one _ rfl rfl) rfl rfl (Parts.cons _ _ _ _ _ _ _ _ ⟨rfl, rfl⟩ (Part.one _ rfl rfl) rfl rfl (Parts.cons _ _ _ _ _ _ _ _ ⟨rfl, rfl⟩ (Part.one _ rfl rfl) rfl rfl (Parts.nil _)))) rfl rfl rfl rfl) (fun β15 => ?_)
 refine GoO.guardT rfl rfl rfl ?_
 have hb := bind_l H; clear H
 obtain ⟨r16, e17, H⟩ := hb
 refine GoO.effC (ef_call rfl (Take.nil _) (Take.cons _ _ _ _ _ Rem.p0 (Take.nil _)) (slices_Equal_int_spec (r5.getD 0 []) ([0, 4, 7] : List Int) e17) (LendL.cons (Lend.refl _ _) (LendL.cons (Lend.all' At.p0 (by first | rfl | omega | (simp only [subl_length, List.length_set, List.length_append, List.length_cons, List.length_nil, List.length_replicate, row_len] <;> first | rfl | omega)) rfl) (LendL.nil))) rfl (slices_Equal_int_I (r16))) (fun rr HH hp => ?_)
 obtain ⟨rfl, rfl⟩ := hp
 refine GoO.guardT rfl rfl rfl ?_
 refine GoO.pure (ps_not rfl rfl) ?_
 refine GoO.pure (ps_pickF rfl rfl rfl) ?_
 refine GoO.nil ?_
 refine GoK.code ?_
 refine GoC.cond rfl (fun h18 => ?_) (fun h18 => ?_)
 replace H := itb_t h18 H
 refine GoC.seq ?_
 refine GoC.region ?_
 refine GoO.pure (ps_assign rfl rfl) ?_
 refine GoO.nil ?_
 refine GoK.code ?_
 obtain rfl := Option.some.inj H
 exact GoC.retL (ds := [.v (.bool false)]) Try.results7 (ResL.cons (ResD.tmp rfl) (ResL.nil)) (Take.nil _) ⟨rfl, rfl⟩
 replace H := itb_f h18 H
 refine GoC.skip ?_
 refine GoK.code ?_
 refine GoC.seq ?_
 refine GoC.region ?_
 refine GoO.pure (ps_loadAg rfl At.p3 At.p3 Nat.zero_lt_one rfl rfl) ?_
 have hb := bind_l H; clear H
 obtain ⟨⟨r19, r21, r23⟩, e24, H⟩ := hb
 refine GoO.callF rfl (Take.nil _) (Take.nil _) (short_All_spec g e24) (LendL.cons (Lend.agA ⟨⟨trivial, Lend.refl _ _⟩, Lend.refl _ _⟩) (LendL.nil)) rfl no_fps (fun rr HH hp => ?_)
 obtain ⟨β20, β22, rfl, rfl⟩ := hp
 refine GoO.pure (ps_move rfl rfl) ?_
 refine GoO.pure (ps_extract rfl rfl rfl) ?_
 refine GoO.pure (ps_extract rfl rfl rfl) ?_
 refine GoO.pure (ps_extract rfl rfl rfl) ?_
 refine GoO.pure (ps_assign rfl rfl) ?_
 refine GoO.pure (ps_assign rfl rfl) ?_
 refine GoO.pure (ps_assign rfl rfl) ?_
 refine GoO.nil ?_
 refine GoK.code ?_
 refine GoC.seq ?_
 refine GoC.seq ?_
 refine GoC.region ?_
 refine GoO.pure (ps_move rfl rfl) ?_
 refine GoO.pure (ps_neq rfl rfl rfl) ?_
 refine GoO.nil ?_
 refine GoK.code ?_
 refine GoC.condD rfl (fun h25 => ?_) (fun h25 => ?_)
 replace H := ite_t h25 H
 refine GoC.seq ?_
 refine GoC.region ?_
 refine GoO.pure (ps_move rfl rfl) ?_
 refine GoO.pure (ps_len rfl (by constructor) rfl) ?_
 refine GoO.lenLe (n := r19.length) (x := .tmp 42) rfl (by constructor) own_lenLe (fun ml26 => ?_)
 refine GoO.pure (ps_move rfl rfl) ?_
 refine GoO.pure (ps_len rfl (by constructor) rfl) ?_
 refine GoO.lenLe (n := r21.length) (x := .tmp 44) rfl (by constructor) own_lenLe (fun ml27 => ?_)
 have c28 := ck_l H; replace H := ck_r H
 refine GoO.pure (ps_add rfl rfl rfl c28) ?_
 refine GoO.pure (ps_eql rfl rfl rfl) ?_
 refine GoO.pure (ps_assign rfl rfl) ?_
 refine GoO.nil ?_
 refine GoK.code ?_
 obtain rfl := Option.some.inj H
 exact GoC.retL (ds := [.v (.bool (decide ((((r19.length + r21.length) : Nat) : Int) = 0)))]) Try.results7 (ResL.cons (ResD.tmp rfl) (ResL.nil)) (Take.nil _) ⟨rfl, rfl⟩
 replace H := ite_f h25 H
 refine GoC.skip ?_
 refine GoK.code ?_
 refine GoC.seq ?_
 refine GoC.seq ?_
 refine GoC.region ?_
 refine GoO.pure (ps_move rfl rfl) ?_
 refine GoO.pure (ps_len rfl (by constructor) rfl) ?_
 refine GoO.lenLe (n := r19.length) (x := .tmp 48) rfl (by constructor) own_lenLe (fun ml29 => ?_)
 refine GoO.pure (ps_fieldAddr rfl rfl) ?_
 refine GoO.pure (ps_load rfl At.p5 At.p5 Nat.zero_lt_one rfl rfl) ?_
 refine GoO.pure (ps_neq rfl rfl rfl) ?_
 refine GoO.pure (ps_move rfl rfl) ?_
 refine GoO.guardE rfl rfl rfl rfl (fun h30 => ?_) (fun h30 => ?_)
 replace H := ite_f h30 H
 refine GoO.pure (ps_move rfl rfl) ?_
 refine GoO.guardT rfl rfl rfl ?_
 refine GoO.pure (ps_len rfl (by constructor) rfl) ?_
 refine GoO.lenLe (n := r21.length) (x := .tmp 54) rfl (by constructor) own_lenLe (fun ml31 => ?_)
 refine GoO.guardT rfl rfl rfl ?_
 refine GoO.pure (ps_fieldAddr rfl rfl) ?_
 refine GoO.guardT rfl rfl rfl ?_
 refine GoO.pure (ps_load rfl At.p5 At.p5 Nat.zero_lt_one rfl rfl) ?_
 refine GoO.guardT rfl rfl rfl ?_
 refine GoO.pure (ps_neq rfl rfl rfl) ?_
 refine GoO.pure (ps_pickF rfl rfl rfl) ?_
 refine GoO.nil ?_
 refine GoK.code ?_
 refine GoC.condD rfl (fun h32 => ?_) (fun h32 => ?_)
 replace H := ite_t h32 H
 refine GoC.seq ?_
 refine GoC.region ?_
 refine GoO.pure (ps_assign rfl rfl) ?_
 refine GoO.nil ?_
 refine GoK.code ?_
 obtain rfl := Option.some.inj H
 exact GoC.retL (ds := [.v (.bool false)]) Try.results7 (ResL.cons (ResD.tmp rfl) (ResL.nil)) (Take.nil _) ⟨rfl, rfl⟩
 replace H := ite_f h32 H
 refine GoC.skip ?_
 refine GoK.code ?_
 refine GoC.seq ?_
 refine GoC.seq ?_
 refine GoC.region ?_
 refine GoO.pure (ps_move rfl rfl) ?_
 refine GoO.pure (ps_len rfl (by constructor) rfl) ?_
 refine GoO.pure (ps_move rfl rfl) ?_
 refine GoO.nil ?_
 refine GoK.code ?_
 have hb := bind_l H; clear H
 obtain ⟨q35, hl43, HK33⟩ := hb
 refine GoC.blockJ [(6, .own β20 1 0 r19.length), (7, .own β22 1 0 r21.length)] [.one β20 25 1 (row r19), .one β22 36 1 (row r21), .one β15 3 1 (row ([0, 4, 7] : List Int)), .one β6 25 1 (row r5), .one β8 36 1 (row r7), .one β1 24 2 (st1 (nth [.v (.int .i64 g.n), slD g.as]))] (fun v h => q35 = .go () ∧ v = [] ∧ h = []) ?_ ?_
 refine GoC.loopJ [(1, _), (6, _), (7, _), (61, _)] [_, _, _, _, _, _] (fun m v h => ∃ (k36 : Nat), (k36 + m = r19.length ∧ forC (weirkeep_ShortThree_B1 g r19 r21) m k36 () = some q35) ∧ v = [(62, .v (.int .i64 ((k36 : Nat) : Int)))] ∧ h = []) r19.length ⟨_, ⟨by omega, hl43⟩, rfl, rfl⟩ (EnvD.eq rfl (EnvD.eq rfl (EnvD.eq rfl (EnvD.eq rfl (EnvD.eq rfl (EnvD.nil)))))) (TkD.cons _ _ _ _ _ Rem.p0 (HLe.refl _) (TkD.cons _ _ _ _ _ Rem.p0 (HLe.refl _) (TkD.cons _ _ _ _ _ Rem.p0 (HLe.refl _) (TkD.cons _ _ _ _ _ Rem.p0 (HLe.refl _) (TkD.cons _ _ _ _ _ Rem.p0 (HLe.refl _) (TkD.cons _ _ _ _ _ Rem.p0 (HLe.refl _) (TkD.nil _))))))) ?_
 rintro m37 v h ⟨k36, ⟨hkk36, hF34⟩, rfl, rfl⟩
 refine GoC.seq ?_
 refine GoC.region ?_
 refine GoO.pure (ps_lss rfl rfl rfl) ?_
 refine GoO.nil ?_
 refine GoK.code ?_
 refine GoC.seq ?_
 refine GoC.condD rfl (fun (hk36 : (k36 : Int) < ((r19.length : Nat) : Int)) => ?_) (fun (hk36 : ¬ (k36 : Int) < ((r19.length : Nat) : Int)) => ?_)
 obtain ⟨m37', rfl⟩ : ∃ x, m37 = x + 1 := ⟨m37 - 1, by omega⟩
 have hb := bind_l hF34; clear hF34
 obtain ⟨qrm37, H, hF34⟩ := hb
 have hnk36 : k36 < r19.length := by omega
 have hIk36 : InI ((k36 : Int) + 1) := inI_len hk36 ml29
 refine GoC.skip ?_
 refine GoK.code ?_
 refine GoC.seq ?_
 refine GoC.block ?_
 refine GoC.seq ?_
 refine GoC.region ?_
 refine GoO.pure (ps_move rfl rfl) ?_
 refine GoO.pure (ps_assign rfl rfl) ?_
 refine GoO.nil ?_
 refine GoK.code ?_
 refine GoC.seq ?_
 refine GoC.drawA (.q 0 (.q 1 (.q 2 (.q 3 (.q 4 (.q 5 (.q 6 (.q 7 (.q 8 (.q 9 (.q 10 (.q 11 (.q 12 (.q 13 (.q 14 (.q 15 (.q 16 (.q 17 (.q 18 (.q 19 (.q 20 (.q 21 (.q 22 (.q 23 (.q 24 (.q 25 (.q 26 (.q 27 (.done))))))))))))))))))))))))))))) follows (by kernel_rfl) ?_
 refine GoP.qN rfl (ps_move rfl rfl) ?_
 refine GoP.qN rfl (ps_move rfl rfl) ?_
 refine GoP.qN rfl (ps_indexAddr0N rfl rfl hnk36 rfl) ?_
 refine GoP.qN rfl (ps_load rfl At.p0 At.p0 hnk36 rfl rfl) ?_
 refine GoP.qN rfl (ps_len rfl (by constructor) rfl) ?_
 refine GoP.qN rfl (ps_fieldAddr rfl rfl) ?_
 refine GoP.qN rfl (ps_load rfl At.p5 At.p5 Nat.zero_lt_one rfl rfl) ?_
 refine GoP.qN rfl (ps_neq rfl rfl rfl) ?_
 refine GoP.qN rfl (ps_move rfl rfl) ?_
 refine GoP.decideD 73 rfl (fun h38 => ?_) (fun h38 => ?_)
 replace H := ite_t h38 H
 refine GoP.qF rfl rfl rfl rfl rfl ?_
 refine GoP.qF rfl rfl rfl rfl rfl ?_
 refine GoP.qF rfl rfl rfl rfl rfl ?_
 refine GoP.qF rfl rfl rfl rfl rfl ?_
 refine GoP.qF rfl rfl rfl rfl rfl ?_
 refine GoP.qF rfl rfl rfl rfl rfl ?_
 refine GoP.qF rfl rfl rfl rfl rfl ?_
 refine GoP.qF rfl rfl rfl rfl rfl ?_
 refine GoP.qN rfl (ps_pickT rfl rfl rfl) ?_
 refine GoP.qN rfl (ps_move rfl rfl) ?_
 refine GoP.qF rfl rfl rfl rfl rfl ?_
 refine GoP.qF rfl rfl rfl rfl rfl ?_
 refine GoP.qF rfl rfl rfl rfl rfl ?_
 refine GoP.qF rfl rfl rfl rfl rfl ?_
 refine GoP.qF rfl rfl rfl rfl rfl ?_
 refine GoP.qF rfl rfl rfl rfl rfl ?_
 refine GoP.qF rfl rfl rfl rfl rfl ?_
 refine GoP.qF rfl rfl rfl rfl rfl ?_
 refine GoP.qN rfl (ps_pickT rfl rfl rfl) ?_
 refine GoP.done ?_
 refine GoK.code ?_
 refine GoC.condT rfl ?_
 refine GoC.seq ?_
 refine GoC.region ?_
 refine GoO.pure (ps_assign rfl rfl) ?_
 refine GoO.nil ?_
 refine GoK.code ?_
 obtain rfl := Option.some.inj H
 obtain rfl := Option.some.inj hF34
 obtain rfl := Option.some.inj HK33
 exact GoC.retL (ds := [.v (.bool false)]) Try.results7 (ResL.cons (ResD.tmp rfl) (ResL.nil)) (Take.nil _) ⟨rfl, rfl⟩
 replace H := ite_f h38 H
 refine GoP.qT rfl rfl rfl rfl (ps_move rfl rfl) ?_
 refine GoP.qT rfl rfl rfl rfl (ps_move rfl rfl) ?_
 have c39 := ck_l H; replace H := ck_r H
 refine GoP.qT rfl rfl rfl rfl (ps_indexAddr0N rfl rfl c39 rfl) ?_
 refine GoP.qT rfl rfl rfl rfl (ps_load rfl At.p1 At.p1 c39 rfl rfl) ?_
 refine GoP.qT rfl rfl rfl rfl (ps_len rfl (by constructor) rfl) ?_
 refine GoP.qT rfl rfl rfl rfl (ps_fieldAddr rfl rfl) ?_
 refine GoP.qT rfl rfl rfl rfl (ps_load rfl At.p5 At.p5 Nat.zero_lt_one rfl rfl) ?_
 refine GoP.qT rfl rfl rfl rfl (ps_neq rfl rfl rfl) ?_
 refine GoP.qN rfl (ps_pickF rfl rfl rfl) ?_
 refine GoP.qN rfl (ps_move rfl rfl) ?_
 refine GoP.decideD 83 rfl (fun h40 => ?_) (fun h40 => ?_)
 replace H := ite_t h40 H
 refine GoP.qF rfl rfl rfl rfl rfl ?_
 refine GoP.qF rfl rfl rfl rfl rfl ?_
 refine GoP.qF rfl rfl rfl rfl rfl ?_
 refine GoP.qF rfl rfl rfl rfl rfl ?_
 refine GoP.qF rfl rfl rfl rfl rfl ?_
 refine GoP.qF rfl rfl rfl rfl rfl ?_
 refine GoP.qF rfl rfl rfl rfl rfl ?_
 refine GoP.qF rfl rfl rfl rfl rfl ?_
 refine GoP.qN rfl (ps_pickT rfl rfl rfl) ?_
 refine GoP.done ?_
 refine GoK.code ?_
 refine GoC.condT rfl ?_
 refine GoC.seq ?_
 refine GoC.region ?_
 refine GoO.pure (ps_assign rfl rfl) ?_
 refine GoO.nil ?_
 refine GoK.code ?_
 obtain rfl := Option.some.inj H
 obtain rfl := Option.some.inj hF34
 obtain rfl := Option.some.inj HK33
 exact GoC.retL (ds := [.v (.bool false)]) Try.results7 (ResL.cons (ResD.tmp rfl) (ResL.nil)) (Take.nil _) ⟨rfl, rfl⟩
 replace H := ite_f h40 H
 refine GoP.qT rfl rfl rfl rfl (ps_move rfl rfl) ?_
 refine GoP.qT rfl rfl rfl rfl (ps_move rfl rfl) ?_
 refine GoP.qT rfl rfl rfl rfl (ps_indexAddr0N rfl rfl hnk36 rfl) ?_
 refine GoP.qT rfl rfl rfl rfl (ps_load rfl At.p0 At.p0 hnk36 rfl rfl) ?_
 refine GoP.qT rfl rfl rfl rfl (ps_move rfl rfl) ?_
 have c41 := ck_l H; replace H := ck_r H
 refine GoP.qT rfl rfl rfl rfl (ps_indexAddrRN rfl rfl c41 rfl) ?_
 refine GoP.qT rfl rfl rfl rfl (ps_loadR rfl c41 rfl rfl) ?_
 refine GoP.qT rfl rfl rfl rfl (ps_neq rfl rfl rfl) ?_
 refine GoP.qN rfl (ps_pickF rfl rfl rfl) ?_
 refine GoP.done ?_
 refine GoK.code ?_
 refine GoC.condD rfl (fun h42 => ?_) (fun h42 => ?_)
 replace H := ite_t h42 H
 refine GoC.seq ?_
 refine GoC.region ?_
 refine GoO.pure (ps_assign rfl rfl) ?_
 refine GoO.nil ?_
 refine GoK.code ?_
 obtain rfl := Option.some.inj H
 obtain rfl := Option.some.inj hF34
 obtain rfl := Option.some.inj HK33
 exact GoC.retL (ds := [.v (.bool false)]) Try.results7 (ResL.cons (ResD.tmp rfl) (ResL.nil)) (Take.nil _) ⟨rfl, rfl⟩
 replace H := ite_f h42 H
 refine GoC.skip ?_
 refine GoK.blk ?_
 refine GoK.code ?_
 refine GoC.region ?_
 refine GoO.pure (ps_add rfl rfl rfl hIk36) ?_
 refine GoO.pure (ps_move rfl rfl) ?_
 refine GoO.nil ?_
 obtain rfl := Option.some.inj H
 exact GoK.againJ m37' (by omega) ⟨_, ⟨by omega, hF34⟩, rfl, rfl⟩ (EnvD.eq rfl (EnvD.eq rfl (EnvD.eq rfl (EnvD.eq rfl (EnvD.eq rfl (EnvD.nil)))))) (TkD.cons _ _ _ _ _ Rem.p0 (HLe.refl _) (TkD.cons _ _ _ _ _ Rem.p0 (HLe.refl _) (TkD.cons _ _ _ _ _ Rem.p0 (HLe.refl _) (TkD.cons _ _ _ _ _ Rem.p0 (HLe.refl _) (TkD.cons _ _ _ _ _ Rem.p0 (HLe.refl _) (TkD.cons _ _ _ _ _ Rem.p0 (HLe.refl _) (TkD.nil _)))))))
 obtain rfl : m37 = 0 := by omega
 refine GoC.exit rfl ?_
 cases hF34
 exact GoK.meet ⟨rfl, rfl, rfl⟩ (EnvD.eq rfl (EnvD.eq rfl (EnvD.nil))) (TkD.cons _ _ _ _ _ Rem.p0 (HLe.refl _) (TkD.cons _ _ _ _ _ Rem.p0 (HLe.refl _) (TkD.cons _ _ _ _ _ Rem.p0 (HLe.refl _) (TkD.cons _ _ _ _ _ Rem.p0 (HLe.refl _) (TkD.cons _ _ _ _ _ Rem.p0 (HLe.refl _) (TkD.cons _ _ _ _ _ Rem.p0 (HLe.st ⟨⟨trivial, DLe.refl _⟩, DLe.refl _⟩) (TkD.nil _)))))))
 rintro v h ⟨rfl, rfl, rfl⟩
 have H := HK33; clear HK33
 refine GoK.code ?_
 refine GoC.seq ?_
 refine GoC.seq ?_
 refine GoC.region ?_
 refine GoO.pure (ps_move rfl rfl) ?_
 refine GoO.pure (ps_len rfl (by constructor) rfl) ?_
 refine GoO.pure (ps_move rfl rfl) ?_
 refine GoO.nil ?_
 refine GoK.code ?_
 have hb := bind_l H; clear H
 obtain ⟨q46, hl74, HK44⟩ := hb
 refine GoC.blockJ [] [.one β20 25 1 (row r19), .one β22 36 1 (row r21), .one β15 3 1 (row ([0, 4, 7] : List Int)), .one β6 25 1 (row r5), .one β8 36 1 (row r7), .one β1 24 2 (st1 (nth [.v (.int .i64 g.n), slD g.as]))] (fun v h => q46 = .go () ∧ v = [] ∧ h = []) ?_ ?_
 refine GoC.loopJ [(6, _), (7, _), (95, _)] [_, _, _, _, _, _] (fun m v h => ∃ (k47 : Nat), (k47 + m = r19.length ∧ forC (weirkeep_ShortThree_B2 r19 r21) m k47 () = some q46) ∧ v = [(96, .v (.int .i64 ((k47 : Nat) : Int)))] ∧ h = []) r19.length ⟨_, ⟨by omega, hl74⟩, rfl, rfl⟩ (EnvD.eq rfl (EnvD.eq rfl (EnvD.eq rfl (EnvD.eq rfl (EnvD.nil))))) (TkD.cons _ _ _ _ _ Rem.p0 (HLe.refl _) (TkD.cons _ _ _ _ _ Rem.p0 (HLe.refl _) (TkD.cons _ _ _ _ _ Rem.p0 (HLe.refl _) (TkD.cons _ _ _ _ _ Rem.p0 (HLe.refl _) (TkD.cons _ _ _ _ _ Rem.p0 (HLe.refl _) (TkD.cons _ _ _ _ _ Rem.p0 (HLe.refl _) (TkD.nil _))))))) ?_
 rintro m48 v h ⟨k47, ⟨hkk47, hF45⟩, rfl, rfl⟩
 refine GoC.seq ?_
 refine GoC.region ?_
 refine GoO.pure (ps_lss rfl rfl rfl) ?_
 refine GoO.nil ?_
 refine GoK.code ?_
 refine GoC.seq ?_
 refine GoC.condD rfl (fun (hk47 : (k47 : Int) < ((r19.length : Nat) : Int)) => ?_) (fun (hk47 : ¬ (k47 : Int) < ((r19.length : Nat) : Int)) => ?_)
 obtain ⟨m48', rfl⟩ : ∃ x, m48 = x + 1 := ⟨m48 - 1, by omega⟩
 have hb := bind_l hF45; clear hF45
 obtain ⟨qrm48, H, hF45⟩ := hb
 have hnk47 : k47 < r19.length := by omega
 have hIk47 : InI ((k47 : Int) + 1) := inI_len hk47 ml29
 refine GoC.skip ?_
 refine GoK.code ?_
 refine GoC.seq ?_
 refine GoC.block ?_
 refine GoC.seq ?_
 refine GoC.region ?_
 refine GoO.pure (ps_move rfl rfl) ?_
 refine GoO.pure (ps_assign rfl rfl) ?_
 refine GoO.nil ?_
 refine GoK.code ?_
 refine GoC.seq ?_
 refine GoC.region ?_
 refine GoO.pure (ps_move rfl rfl) ?_
 refine GoO.pure (ps_len rfl (by constructor) rfl) ?_
 refine GoO.pure (ps_move rfl rfl) ?_
 refine GoO.nil ?_
 refine GoK.code ?_
 have hb := bind_l H; clear H
 obtain ⟨q51, hl73, HK49⟩ := hb
 refine GoC.blockJ [(6, .own β20 1 0 r19.length), (7, .own β22 1 0 r21.length), (95, .v (.int .i64 ((r19.length : Nat) : Int))), (96, .v (.int .i64 ((k47 : Nat) : Int)))] [.one β20 25 1 (row r19), .one β22 36 1 (row r21), .one β15 3 1 (row ([0, 4, 7] : List Int)), .one β6 25 1 (row r5), .one β8 36 1 (row r7), .one β1 24 2 (st1 (nth [.v (.int .i64 g.n), slD g.as]))] (fun v h => q51 = .go () ∧ v = [] ∧ h = []) ?_ ?_
 refine GoC.loopJ [(6, _), (7, _), (10, _), (95, _), (96, _), (100, _)] [_, _, _, _, _, _] (fun m v h => ∃ (k52 : Nat), (k52 + m = r19.length ∧ forC (weirkeep_ShortThree_B3 r19 r21 k47) m k52 () = some q51) ∧ v = [(101, .v (.int .i64 ((k52 : Nat) : Int)))] ∧ h = []) r19.length ⟨_, ⟨by omega, hl73⟩, rfl, rfl⟩ (EnvD.eq rfl (EnvD.eq rfl (EnvD.eq rfl (EnvD.eq rfl (EnvD.eq rfl (EnvD.eq rfl (EnvD.eq rfl (EnvD.nil)))))))) (TkD.cons _ _ _ _ _ Rem.p0 (HLe.refl _) (TkD.cons _ _ _ _ _ Rem.p0 (HLe.refl _) (TkD.cons _ _ _ _ _ Rem.p0 (HLe.refl _) (TkD.cons _ _ _ _ _ Rem.p0 (HLe.refl _) (TkD.cons _ _ _ _ _ Rem.p0 (HLe.refl _) (TkD.cons _ _ _ _ _ Rem.p0 (HLe.refl _) (TkD.nil _))))))) ?_
 rintro m53 v h ⟨k52, ⟨hkk52, hF50⟩, rfl, rfl⟩
 refine GoC.seq ?_
 refine GoC.region ?_
 refine GoO.pure (ps_lss rfl rfl rfl) ?_
 refine GoO.nil ?_
 refine GoK.code ?_
 refine GoC.seq ?_
 refine GoC.condD rfl (fun (hk52 : (k52 : Int) < ((r19.length : Nat) : Int)) => ?_) (fun (hk52 : ¬ (k52 : Int) < ((r19.length : Nat) : Int)) => ?_)
 obtain ⟨m53', rfl⟩ : ∃ x, m53 = x + 1 := ⟨m53 - 1, by omega⟩
 have hb := bind_l hF50; clear hF50
 obtain ⟨qrm53, H, hF50⟩ := hb
 have hnk52 : k52 < r19.length := by omega
 have hIk52 : InI ((k52 : Int) + 1) := inI_len hk52 ml29
 refine GoC.skip ?_
 refine GoK.code ?_
 refine GoC.seq ?_
 refine GoC.block ?_
 refine GoC.seq ?_
 refine GoC.region ?_
 refine GoO.pure (ps_move rfl rfl) ?_
 refine GoO.pure (ps_assign rfl rfl) ?_
 refine GoO.nil ?_
 refine GoK.code ?_
 refine GoC.seq ?_
 refine GoC.region ?_
 refine GoO.pure (ps_move rfl rfl) ?_
 refine GoO.pure (ps_len rfl (by constructor) rfl) ?_
 refine GoO.pure (ps_move rfl rfl) ?_
 refine GoO.nil ?_
 refine GoK.code ?_
 have hb := bind_l H; clear H
 obtain ⟨q56, hl72, HK54⟩ := hb
 refine GoC.blockJ [(6, .own β20 1 0 r19.length), (7, .own β22 1 0 r21.length), (10, .v (.int .i64 ((k47 : Nat) : Int))), (95, .v (.int .i64 ((r19.length : Nat) : Int))), (96, .v (.int .i64 ((k47 : Nat) : Int))), (100, .v (.int .i64 ((r19.length : Nat) : Int))), (101, .v (.int .i64 ((k52 : Nat) : Int)))] [.one β20 25 1 (row r19), .one β22 36 1 (row r21), .one β15 3 1 (row ([0, 4, 7] : List Int)), .one β6 25 1 (row r5), .one β8 36 1 (row r7), .one β1 24 2 (st1 (nth [.v (.int .i64 g.n), slD g.as]))] (fun v h => q56 = .go () ∧ v = [] ∧ h = []) ?_ ?_
 refine GoC.loopJ [(6, _), (7, _), (10, _), (11, _), (95, _), (96, _), (100, _), (101, _), (105, _)] [_, _, _, _, _, _] (fun m v h => ∃ (k57 : Nat), (k57 + m = r19.length ∧ forC (weirkeep_ShortThree_B4 r19 r21 k47 k52) m k57 () = some q56) ∧ v = [(106, .v (.int .i64 ((k57 : Nat) : Int)))] ∧ h = []) r19.length ⟨_, ⟨by omega, hl72⟩, rfl, rfl⟩ (EnvD.eq rfl (EnvD.eq rfl (EnvD.eq rfl (EnvD.eq rfl (EnvD.eq rfl (EnvD.eq rfl (EnvD.eq rfl (EnvD.eq rfl (EnvD.eq rfl (EnvD.eq rfl (EnvD.nil))))))))))) (TkD.cons _ _ _ _ _ Rem.p0 (HLe.refl _) (TkD.cons _ _ _ _ _ Rem.p0 (HLe.refl _) (TkD.cons _ _ _ _ _ Rem.p0 (HLe.refl _) (TkD.cons _ _ _ _ _ Rem.p0 (HLe.refl _) (TkD.cons _ _ _ _ _ Rem.p0 (HLe.refl _) (TkD.cons _ _ _ _ _ Rem.p0 (HLe.refl _) (TkD.nil _))))))) ?_
 rintro m58 v h ⟨k57, ⟨hkk57, hF55⟩, rfl, rfl⟩
 refine GoC.seq ?_
 refine GoC.region ?_
 refine GoO.pure (ps_lss rfl rfl rfl) ?_
 refine GoO.nil ?_
 refine GoK.code ?_
 refine GoC.seq ?_
 refine GoC.condD rfl (fun (hk57 : (k57 : Int) < ((r19.length : Nat) : Int)) => ?_) (fun (hk57 : ¬ (k57 : Int) < ((r19.length : Nat) : Int)) => ?_)
 obtain ⟨m58', rfl⟩ : ∃ x, m58 = x + 1 := ⟨m58 - 1, by omega⟩
 have hb := bind_l hF55; clear hF55
 obtain ⟨qrm58, H, hF55⟩ := hb
 have hnk57 : k57 < r19.length := by omega
 have hIk57 : InI ((k57 : Int) + 1) := inI_len hk57 ml29
 refine GoC.skip ?_
 refine GoK.code ?_
 refine GoC.seq ?_
 refine GoC.block ?_
 refine GoC.seq ?_
 refine GoC.region ?_
 refine GoO.pure (ps_move rfl rfl) ?_
 refine GoO.pure (ps_assign rfl rfl) ?_
 refine GoO.nil ?_
 refine GoK.code ?_
 refine GoC.seq ?_
 refine GoC.drawA (.q 0 (.q 1 (.q 2 (.q 3 (.q 4 (.q 5 (.q 6 (.q 7 (.q 8 (.q 9 (.q 10 (.q 11 (.q 12 (.q 13 (.q 14 (.q 15 (.q 16 (.q 17 (.q 18 (.q 19 (.q 20 (.q 21 (.q 22 (.q 23 (.q 24 (.q 25 (.q 26 (.q 27 (.q 28 (.q 29 (.q 30 (.q 31 (.q 32 (.q 33 (.q 34 (.q 35 (.q 36 (.q 37 (.q 38 (.q 39 (.q 40 (.q 41 (.q 42 (.q 43 (.q 44 (.q 45 (.q 46 (.q 47 (.q 48 (.q 49 (.q 50 (.done)))))))))))))))))))))))))))))))))))))))))))))))))))) follows (by kernel_rfl) ?_
 refine GoP.qN rfl (ps_move rfl rfl) ?_
 refine GoP.qN rfl (ps_move rfl rfl) ?_
 have c59 := ck_l H; replace H := ck_r H
 refine GoP.qN rfl (ps_indexAddr0N rfl rfl c59 rfl) ?_
 refine GoP.qN rfl (ps_load rfl At.p1 At.p1 c59 rfl rfl) ?_
 refine GoP.qN rfl (ps_move rfl rfl) ?_
 have c60 := ck_l H; replace H := ck_r H
 refine GoP.qN rfl (ps_indexAddrRN rfl rfl c60 rfl) ?_
 refine GoP.qN rfl (ps_loadR rfl c60 rfl rfl) ?_
 refine GoP.qN rfl (ps_move rfl rfl) ?_
 refine GoP.decide 116 rfl (fun h61 => ?_) (fun h61 => ?_)
 replace H := itb_t h61 H
 refine GoP.qT rfl rfl rfl rfl (ps_move rfl rfl) ?_
 refine GoP.qT rfl rfl rfl rfl (ps_move rfl rfl) ?_
 have c62 := ck_l H; replace H := ck_r H
 refine GoP.qT rfl rfl rfl rfl (ps_indexAddr0N rfl rfl c62 rfl) ?_
 refine GoP.qT rfl rfl rfl rfl (ps_load rfl At.p1 At.p1 c62 rfl rfl) ?_
 refine GoP.qT rfl rfl rfl rfl (ps_move rfl rfl) ?_
 have c63 := ck_l H; replace H := ck_r H
 refine GoP.qT rfl rfl rfl rfl (ps_indexAddrRN rfl rfl c63 rfl) ?_
 refine GoP.qT rfl rfl rfl rfl (ps_loadR rfl c63 rfl rfl) ?_
 refine GoP.qN rfl (ps_pickT rfl rfl rfl) ?_
 refine GoP.qN rfl (ps_move rfl rfl) ?_
 refine GoP.decide 125 rfl (fun h64 => ?_) (fun h64 => ?_)
 replace H := itb_t h64 H
 refine GoP.qT rfl rfl rfl rfl (ps_move rfl rfl) ?_
 refine GoP.qT rfl rfl rfl rfl (ps_move rfl rfl) ?_
 refine GoP.qT rfl rfl rfl rfl (ps_indexAddr0N rfl rfl c59 rfl) ?_
 refine GoP.qT rfl rfl rfl rfl (ps_load rfl At.p1 At.p1 c59 rfl rfl) ?_
 refine GoP.qT rfl rfl rfl rfl (ps_move rfl rfl) ?_
 have c65 := ck_l H; replace H := ck_r H
 refine GoP.qT rfl rfl rfl rfl (ps_indexAddrRN rfl rfl c65 rfl) ?_
 refine GoP.qT rfl rfl rfl rfl (ps_loadR rfl c65 rfl rfl) ?_
 refine GoP.qT rfl rfl rfl rfl (ps_not rfl rfl) ?_
 refine GoP.qT rfl rfl rfl rfl (ps_move rfl rfl) ?_
 refine GoP.decide 134 rfl (fun h66 => ?_) (fun h66 => ?_)
 replace H := itb_t h66 H
 refine GoP.qF rfl rfl rfl rfl rfl ?_
 refine GoP.qF rfl rfl rfl rfl rfl ?_
 refine GoP.qF rfl rfl rfl rfl rfl ?_
 refine GoP.qF rfl rfl rfl rfl rfl ?_
 refine GoP.qF rfl rfl rfl rfl rfl ?_
 refine GoP.qF rfl rfl rfl rfl rfl ?_
 refine GoP.qF rfl rfl rfl rfl rfl ?_
 refine GoP.qF rfl rfl rfl rfl rfl ?_
 refine GoP.qF rfl rfl rfl rfl rfl ?_
 refine GoP.qF rfl rfl rfl rfl rfl ?_
 refine GoP.qF rfl rfl rfl rfl rfl ?_
 refine GoP.qF rfl rfl rfl rfl rfl ?_
 refine GoP.qF rfl rfl rfl rfl rfl ?_
 refine GoP.qF rfl rfl rfl rfl rfl ?_
 refine GoP.qF rfl rfl rfl rfl rfl ?_
 refine GoP.qF rfl rfl rfl rfl rfl ?_
 refine GoP.qF rfl rfl rfl rfl rfl ?_
 refine GoP.qF rfl rfl rfl rfl rfl ?_
 refine GoP.qF rfl rfl rfl rfl rfl ?_
 refine GoP.qF rfl rfl rfl rfl rfl ?_
 refine GoP.qF rfl rfl rfl rfl rfl ?_
 refine GoP.qF rfl rfl rfl rfl rfl ?_
 refine GoP.qF rfl rfl rfl rfl rfl ?_
 refine GoP.qT rfl rfl rfl rfl (ps_pickT rfl rfl rfl) ?_
 refine GoP.qN rfl (ps_pickT rfl rfl rfl) ?_
 refine GoP.done ?_
 refine GoK.code ?_
 refine GoC.condT rfl ?_
 refine GoC.seq ?_
 refine GoC.region ?_
 refine GoO.pure (ps_assign rfl rfl) ?_
 refine GoO.nil ?_
 refine GoK.code ?_
 obtain rfl := Option.some.inj H
 obtain rfl := Option.some.inj hF55
 obtain rfl := Option.some.inj HK54
 obtain rfl := Option.some.inj hF50
 obtain rfl := Option.some.inj HK49
 obtain rfl := Option.some.inj hF45
 obtain rfl := Option.some.inj HK44
 exact GoC.retL (ds := [.v (.bool false)]) Try.results7 (ResL.cons (ResD.tmp rfl) (ResL.nil)) (Take.nil _) ⟨rfl, rfl⟩
 replace H := itb_f h66 H
 refine GoP.qT rfl rfl rfl rfl (ps_move rfl rfl) ?_
 refine GoP.qT rfl rfl rfl rfl (ps_move rfl rfl) ?_
 refine GoP.qT rfl rfl rfl rfl (ps_indexAddr0N rfl rfl hnk47 rfl) ?_
 refine GoP.qT rfl rfl rfl rfl (ps_load rfl At.p0 At.p0 hnk47 rfl rfl) ?_
 refine GoP.qT rfl rfl rfl rfl (ps_move rfl rfl) ?_
 have c67 := ck_l H; replace H := ck_r H
 refine GoP.qT rfl rfl rfl rfl (ps_indexAddrRN rfl rfl c67 rfl) ?_
 refine GoP.qT rfl rfl rfl rfl (ps_loadR rfl c67 rfl rfl) ?_
 refine GoP.qT rfl rfl rfl rfl (ps_move rfl rfl) ?_
 refine GoP.qT rfl rfl rfl rfl (ps_move rfl rfl) ?_
 refine GoP.qT rfl rfl rfl rfl (ps_indexAddr0N rfl rfl hnk47 rfl) ?_
 refine GoP.qT rfl rfl rfl rfl (ps_load rfl At.p0 At.p0 hnk47 rfl rfl) ?_
 refine GoP.qT rfl rfl rfl rfl (ps_move rfl rfl) ?_
 have c68 := ck_l H; replace H := ck_r H
 refine GoP.qT rfl rfl rfl rfl (ps_indexAddrRN rfl rfl c68 rfl) ?_
 refine GoP.qT rfl rfl rfl rfl (ps_loadR rfl c68 rfl rfl) ?_
 refine GoP.qT rfl rfl rfl rfl (ps_move rfl rfl) ?_
 refine GoP.qT rfl rfl rfl rfl (ps_move rfl rfl) ?_
 refine GoP.qT rfl rfl rfl rfl (ps_indexAddr0N rfl rfl hnk52 rfl) ?_
 refine GoP.qT rfl rfl rfl rfl (ps_load rfl At.p0 At.p0 hnk52 rfl rfl) ?_
 refine GoP.qT rfl rfl rfl rfl (ps_move rfl rfl) ?_
 have c69 := ck_l H; replace H := ck_r H
 refine GoP.qT rfl rfl rfl rfl (ps_indexAddrRN rfl rfl c69 rfl) ?_
 refine GoP.qT rfl rfl rfl rfl (ps_loadR rfl c69 rfl rfl) ?_
 have c70 := ck_l H; replace H := ck_r H
 refine GoP.qT rfl rfl rfl rfl (ps_add rfl rfl rfl c70) ?_
 refine GoP.qT rfl rfl rfl rfl (ps_gtr rfl rfl rfl) ?_
 refine GoP.qT rfl rfl rfl rfl (ps_pickF rfl rfl rfl) ?_
 refine GoP.qN rfl (ps_pickT rfl rfl rfl) ?_
 refine GoP.done ?_
 refine GoK.code ?_
 refine GoC.condD rfl (fun h71 => ?_) (fun h71 => ?_)
 replace H := ite_t h71 H
 refine GoC.seq ?_
 refine GoC.region ?_
 refine GoO.pure (ps_assign rfl rfl) ?_
 refine GoO.nil ?_
 refine GoK.code ?_
 obtain rfl := Option.some.inj H
 obtain rfl := Option.some.inj hF55
 obtain rfl := Option.some.inj HK54
 obtain rfl := Option.some.inj hF50
 obtain rfl := Option.some.inj HK49
 obtain rfl := Option.some.inj hF45
 obtain rfl := Option.some.inj HK44
 exact GoC.retL (ds := [.v (.bool false)]) Try.results7 (ResL.cons (ResD.tmp rfl) (ResL.nil)) (Take.nil _) ⟨rfl, rfl⟩
 replace H := ite_f h71 H
 refine GoC.skip ?_
 refine GoK.blk ?_
 refine GoK.code ?_
 refine GoC.region ?_
 refine GoO.pure (ps_add rfl rfl rfl hIk57) ?_
 refine GoO.pure (ps_move rfl rfl) ?_
 refine GoO.nil ?_
 obtain rfl := Option.some.inj H
 exact GoK.againJ m58' (by omega) ⟨_, ⟨by omega, hF55⟩, rfl, rfl⟩ (EnvD.eq rfl (EnvD.eq rfl (EnvD.eq rfl (EnvD.eq rfl (EnvD.eq rfl (EnvD.eq rfl (EnvD.eq rfl (EnvD.eq rfl (EnvD.eq rfl (EnvD.eq rfl (EnvD.nil))))))))))) (TkD.cons _ _ _ _ _ Rem.p0 (HLe.refl _) (TkD.cons _ _ _ _ _ Rem.p0 (HLe.refl _) (TkD.cons _ _ _ _ _ Rem.p0 (HLe.refl _) (TkD.cons _ _ _ _ _ Rem.p0 (HLe.refl _) (TkD.cons _ _ _ _ _ Rem.p0 (HLe.refl _) (TkD.cons _ _ _ _ _ Rem.p0 (HLe.refl _) (TkD.nil _)))))))
 replace H := itb_f h64 H
 refine GoP.qF rfl rfl rfl rfl rfl ?_
 refine GoP.qF rfl rfl rfl rfl rfl ?_
 refine GoP.qF rfl rfl rfl rfl rfl ?_
 refine GoP.qF rfl rfl rfl rfl rfl ?_
 refine GoP.qF rfl rfl rfl rfl rfl ?_
 refine GoP.qF rfl rfl rfl rfl rfl ?_
 refine GoP.qF rfl rfl rfl rfl rfl ?_
 refine GoP.qF rfl rfl rfl rfl rfl ?_
 refine GoP.qF rfl rfl rfl rfl rfl ?_
 refine GoP.qU rfl rfl rfl rfl rfl ?_
 refine GoP.qU rfl rfl rfl rfl rfl ?_
 refine GoP.qU rfl rfl rfl rfl rfl ?_
 refine GoP.qU rfl rfl rfl rfl rfl ?_
 refine GoP.qU rfl rfl rfl rfl rfl ?_
 refine GoP.qU rfl rfl rfl rfl rfl ?_
 refine GoP.qU rfl rfl rfl rfl rfl ?_
 refine GoP.qU rfl rfl rfl rfl rfl ?_
 refine GoP.qU rfl rfl rfl rfl rfl ?_
 refine GoP.qU rfl rfl rfl rfl rfl ?_
 refine GoP.qU rfl rfl rfl rfl rfl ?_
 refine GoP.qU rfl rfl rfl rfl rfl ?_
 refine GoP.qU rfl rfl rfl rfl rfl ?_
 refine GoP.qU rfl rfl rfl rfl rfl ?_
 refine GoP.qU rfl rfl rfl rfl rfl ?_
 refine GoP.qU rfl rfl rfl rfl rfl ?_
 refine GoP.qU rfl rfl rfl rfl rfl ?_
 refine GoP.qU rfl rfl rfl rfl rfl ?_
 refine GoP.qU rfl rfl rfl rfl rfl ?_
 refine GoP.qU rfl rfl rfl rfl rfl ?_
 refine GoP.qU rfl rfl rfl rfl rfl ?_
 refine GoP.qU rfl rfl rfl rfl rfl ?_
 refine GoP.qU rfl rfl rfl rfl rfl ?_
 refine GoP.qF rfl rfl rfl rfl rfl ?_
 refine GoP.qN rfl (ps_pickF rfl rfl rfl) ?_
 refine GoP.done ?_
 refine GoK.code ?_
 refine GoC.condF rfl ?_
 refine GoC.skip ?_
 refine GoK.blk ?_
 refine GoK.code ?_
 refine GoC.region ?_
 refine GoO.pure (ps_add rfl rfl rfl hIk57) ?_
 refine GoO.pure (ps_move rfl rfl) ?_
 refine GoO.nil ?_
 obtain rfl := Option.some.inj H
 exact GoK.againJ m58' (by omega) ⟨_, ⟨by omega, hF55⟩, rfl, rfl⟩ (EnvD.eq rfl (EnvD.eq rfl (EnvD.eq rfl (EnvD.eq rfl (EnvD.eq rfl (EnvD.eq rfl (EnvD.eq rfl (EnvD.eq rfl (EnvD.eq rfl (EnvD.eq rfl (EnvD.nil))))))))))) (TkD.cons _ _ _ _ _ Rem.p0 (HLe.refl _) (TkD.cons _ _ _ _ _ Rem.p0 (HLe.refl _) (TkD.cons _ _ _ _ _ Rem.p0 (HLe.refl _) (TkD.cons _ _ _ _ _ Rem.p0 (HLe.refl _) (TkD.cons _ _ _ _ _ Rem.p0 (HLe.refl _) (TkD.cons _ _ _ _ _ Rem.p0 (HLe.refl _) (TkD.nil _)))))))
 replace H := itb_f h61 H
 refine GoP.qF rfl rfl rfl rfl rfl ?_
 refine GoP.qF rfl rfl rfl rfl rfl ?_
 refine GoP.qF rfl rfl rfl rfl rfl ?_
 refine GoP.qF rfl rfl rfl rfl rfl ?_
 refine GoP.qF rfl rfl rfl rfl rfl ?_
 refine GoP.qF rfl rfl rfl rfl rfl ?_
 refine GoP.qF rfl rfl rfl rfl rfl ?_
 refine GoP.qN rfl (ps_pickF rfl rfl rfl) ?_
 refine GoP.qN rfl (ps_move rfl rfl) ?_
 refine GoP.qF rfl rfl rfl rfl rfl ?_
 refine GoP.qF rfl rfl rfl rfl rfl ?_
 refine GoP.qF rfl rfl rfl rfl rfl ?_
 refine GoP.qF rfl rfl rfl rfl rfl ?_
 refine GoP.qF rfl rfl rfl rfl rfl ?_
 refine GoP.qF rfl rfl rfl rfl rfl ?_
 refine GoP.qF rfl rfl rfl rfl rfl ?_
 refine GoP.qF rfl rfl rfl rfl rfl ?_
 refine GoP.qF rfl rfl rfl rfl rfl ?_
 refine GoP.qU rfl rfl rfl rfl rfl ?_
 refine GoP.qU rfl rfl rfl rfl rfl ?_
 refine GoP.qU rfl rfl rfl rfl rfl ?_
 refine GoP.qU rfl rfl rfl rfl rfl ?_
 refine GoP.qU rfl rfl rfl rfl rfl ?_
 refine GoP.qU rfl rfl rfl rfl rfl ?_
 refine GoP.qU rfl rfl rfl rfl rfl ?_
 refine GoP.qU rfl rfl rfl rfl rfl ?_
 refine GoP.qU rfl rfl rfl rfl rfl ?_
 refine GoP.qU rfl rfl rfl rfl rfl ?_
 refine GoP.qU rfl rfl rfl rfl rfl ?_
 refine GoP.qU rfl rfl rfl rfl rfl ?_
 refine GoP.qU rfl rfl rfl rfl rfl ?_
 refine GoP.qU rfl rfl rfl rfl rfl ?_
 refine GoP.qU rfl rfl rfl rfl rfl ?_
 refine GoP.qU rfl rfl rfl rfl rfl ?_
 refine GoP.qU rfl rfl rfl rfl rfl ?_
 refine GoP.qU rfl rfl rfl rfl rfl ?_
 refine GoP.qU rfl rfl rfl rfl rfl ?_
 refine GoP.qU rfl rfl rfl rfl rfl ?_
 refine GoP.qU rfl rfl rfl rfl rfl ?_
 refine GoP.qU rfl rfl rfl rfl rfl ?_
 refine GoP.qU rfl rfl rfl rfl rfl ?_
 refine GoP.qF rfl rfl rfl rfl rfl ?_
 refine GoP.qN rfl (ps_pickF rfl rfl rfl) ?_
 refine GoP.done ?_
 refine GoK.code ?_
 refine GoC.condF rfl ?_
 refine GoC.skip ?_
 refine GoK.blk ?_
 refine GoK.code ?_
 refine GoC.region ?_
 refine GoO.pure (ps_add rfl rfl rfl hIk57) ?_
 refine GoO.pure (ps_move rfl rfl) ?_
 refine GoO.nil ?_
 obtain rfl := Option.some.inj H
 exact GoK.againJ m58' (by omega) ⟨_, ⟨by omega, hF55⟩, rfl, rfl⟩ (EnvD.eq rfl (EnvD.eq rfl (EnvD.eq rfl (EnvD.eq rfl (EnvD.eq rfl (EnvD.eq rfl (EnvD.eq rfl (EnvD.eq rfl (EnvD.eq rfl (EnvD.eq rfl (EnvD.nil))))))))))) (TkD.cons _ _ _ _ _ Rem.p0 (HLe.refl _) (TkD.cons _ _ _ _ _ Rem.p0 (HLe.refl _) (TkD.cons _ _ _ _ _ Rem.p0 (HLe.refl _) (TkD.cons _ _ _ _ _ Rem.p0 (HLe.refl _) (TkD.cons _ _ _ _ _ Rem.p0 (HLe.refl _) (TkD.cons _ _ _ _ _ Rem.p0 (HLe.refl _) (TkD.nil _)))))))
 obtain rfl : m58 = 0 := by omega
 refine GoC.exit rfl ?_
 cases hF55
 exact GoK.meet ⟨rfl, rfl, rfl⟩ (EnvD.eq rfl (EnvD.eq rfl (EnvD.eq rfl (EnvD.eq rfl (EnvD.eq rfl (EnvD.eq rfl (EnvD.eq rfl (EnvD.nil)))))))) (TkD.cons _ _ _ _ _ Rem.p0 (HLe.refl _) (TkD.cons _ _ _ _ _ Rem.p0 (HLe.refl _) (TkD.cons _ _ _ _ _ Rem.p0 (HLe.refl _) (TkD.cons _ _ _ _ _ Rem.p0 (HLe.refl _) (TkD.cons _ _ _ _ _ Rem.p0 (HLe.refl _) (TkD.cons _ _ _ _ _ Rem.p0 (HLe.st ⟨⟨trivial, DLe.refl _⟩, DLe.refl _⟩) (TkD.nil _)))))))
 rintro v h ⟨rfl, rfl, rfl⟩
 have H := HK54; clear HK54
 refine GoK.blk ?_
 refine GoK.code ?_
 refine GoC.region ?_
 refine GoO.pure (ps_add rfl rfl rfl hIk52) ?_
 refine GoO.pure (ps_move rfl rfl) ?_
 refine GoO.nil ?_
 obtain rfl := Option.some.inj H
 exact GoK.againJ m53' (by omega) ⟨_, ⟨by omega, hF50⟩, rfl, rfl⟩ (EnvD.eq rfl (EnvD.eq rfl (EnvD.eq rfl (EnvD.eq rfl (EnvD.eq rfl (EnvD.eq rfl (EnvD.eq rfl (EnvD.nil)))))))) (TkD.cons _ _ _ _ _ Rem.p0 (HLe.refl _) (TkD.cons _ _ _ _ _ Rem.p0 (HLe.refl _) (TkD.cons _ _ _ _ _ Rem.p0 (HLe.refl _) (TkD.cons _ _ _ _ _ Rem.p0 (HLe.refl _) (TkD.cons _ _ _ _ _ Rem.p0 (HLe.refl _) (TkD.cons _ _ _ _ _ Rem.p0 (HLe.refl _) (TkD.nil _)))))))
 obtain rfl : m53 = 0 := by omega
 refine GoC.exit rfl ?_
 cases hF50
 exact GoK.meet ⟨rfl, rfl, rfl⟩ (EnvD.eq rfl (EnvD.eq rfl (EnvD.eq rfl (EnvD.eq rfl (EnvD.nil))))) (TkD.cons _ _ _ _ _ Rem.p0 (HLe.refl _) (TkD.cons _ _ _ _ _ Rem.p0 (HLe.refl _) (TkD.cons _ _ _ _ _ Rem.p0 (HLe.refl _) (TkD.cons _ _ _ _ _ Rem.p0 (HLe.refl _) (TkD.cons _ _ _ _ _ Rem.p0 (HLe.refl _) (TkD.cons _ _ _ _ _ Rem.p0 (HLe.st ⟨⟨trivial, DLe.refl _⟩, DLe.refl _⟩) (TkD.nil _)))))))
 rintro v h ⟨rfl, rfl, rfl⟩
 have H := HK49; clear HK49
 refine GoK.blk ?_
 refine GoK.code ?_
 refine GoC.region ?_
 refine GoO.pure (ps_add rfl rfl rfl hIk47) ?_
 refine GoO.pure (ps_move rfl rfl) ?_
 refine GoO.nil ?_
 obtain rfl := Option.some.inj H
 exact GoK.againJ m48' (by omega) ⟨_, ⟨by omega, hF45⟩, rfl, rfl⟩ (EnvD.eq rfl (EnvD.eq rfl (EnvD.eq rfl (EnvD.eq rfl (EnvD.nil))))) (TkD.cons _ _ _ _ _ Rem.p0 (HLe.refl _) (TkD.cons _ _ _ _ _ Rem.p0 (HLe.refl _) (TkD.cons _ _ _ _ _ Rem.p0 (HLe.refl _) (TkD.cons _ _ _ _ _ Rem.p0 (HLe.refl _) (TkD.cons _ _ _ _ _ Rem.p0 (HLe.refl _) (TkD.cons _ _ _ _ _ Rem.p0 (HLe.refl _) (TkD.nil _)))))))
 obtain rfl : m48 = 0 := by omega
 refine GoC.exit rfl ?_
 cases hF45
 exact GoK.meet ⟨rfl, rfl, rfl⟩ (EnvD.nil) (TkD.cons _ _ _ _ _ Rem.p0 (HLe.refl _) (TkD.cons _ _ _ _ _ Rem.p0 (HLe.refl _) (TkD.cons _ _ _ _ _ Rem.p0 (HLe.refl _) (TkD.cons _ _ _ _ _ Rem.p0 (HLe.refl _) (TkD.cons _ _ _ _ _ Rem.p0 (HLe.refl _) (TkD.cons _ _ _ _ _ Rem.p0 (HLe.st ⟨⟨trivial, DLe.refl _⟩, DLe.refl _⟩) (TkD.nil _)))))))
 rintro v h ⟨rfl, rfl, rfl⟩
 have H := HK44; clear HK44
 refine GoK.code ?_
 refine GoC.seq ?_
 refine GoC.region ?_
 refine GoO.pure (ps_assign rfl rfl) ?_
 refine GoO.nil ?_
 refine GoK.code ?_
 obtain rfl := Option.some.inj H
 exact GoC.retL (ds := [.v (.bool true)]) Try.results7 (ResL.cons (ResD.tmp rfl) (ResL.nil)) (Take.nil _) ⟨rfl, rfl⟩
 replace H := ite_t h30 H
 refine GoO.guardF rfl rfl rfl rfl ?_
 refine GoO.guardF rfl rfl rfl rfl ?_
 refine GoO.guardF rfl rfl rfl rfl ?_
 refine GoO.guardF rfl rfl rfl rfl ?_
 refine GoO.pure (ps_pickT rfl rfl rfl) ?_
 refine GoO.nil ?_
 refine GoK.code ?_
 refine GoC.condT rfl ?_
 refine GoC.seq ?_
 refine GoC.region ?_
 refine GoO.pure (ps_assign rfl rfl) ?_
 refine GoO.nil ?_
 refine GoK.code ?_
 obtain rfl := Option.some.inj H
 exact GoC.retL (ds := [.v (.bool false)]) Try.results7 (ResL.cons (ResD.tmp rfl) (ResL.nil)) (Take.nil _) ⟨rfl, rfl⟩
 replace H := ite_t h13 H
 refine GoO.guardF rfl rfl rfl rfl ?_
 refine GoO.guardF rfl rfl rfl rfl ?_
 refine GoO.guardF rfl rfl rfl rfl ?_
 refine GoO.guardF rfl rfl rfl rfl ?_
 refine GoO.guardF rfl rfl rfl rfl ?_
 refine GoO.pure (ps_pickT rfl rfl rfl) ?_
 refine GoO.nil ?_
 refine GoK.code ?_
 refine GoC.condT rfl ?_
 refine GoC.seq ?_
 refine GoC.region ?_
 refine GoO.pure (ps_assign rfl rfl) ?_
 refine GoO.nil ?_
 refine GoK.code ?_
 obtain rfl := Option.some.inj H
 exact GoC.retL (ds := [.v (.bool false)]) Try.results7 (ResL.cons (ResD.tmp rfl) (ResL.nil)) (Take.nil _) ⟨rfl, rfl⟩
 replace H := ite_t h11 H
 refine GoO.guardF rfl rfl rfl rfl ?_
 refine GoO.guardF rfl rfl rfl rfl ?_
 refine GoO.pure (ps_pickT rfl rfl rfl) ?_
 refine GoO.pure (ps_move rfl rfl) ?_
 refine GoO.guardF rfl rfl rfl rfl ?_
 refine GoO.guardF rfl rfl rfl rfl ?_
 refine GoO.guardF rfl rfl rfl rfl ?_
 refine GoO.guardF rfl rfl rfl rfl ?_
 refine GoO.guardF rfl rfl rfl rfl ?_
 refine GoO.guardF rfl rfl rfl rfl ?_
 refine GoO.pure (ps_pickT rfl rfl rfl) ?_
 refine GoO.nil ?_
 refine GoK.code ?_
 refine GoC.condT rfl ?_
 refine GoC.seq ?_
 refine GoC.region ?_
 refine GoO.pure (ps_assign rfl rfl) ?_
 refine GoO.nil ?_
 refine GoK.code ?_
 obtain rfl := Option.some.inj H
 exact GoC.retL (ds := [.v (.bool false)]) Try.results7 (ResL.cons (ResD.tmp rfl) (ResL.nil)) (Take.nil _) ⟨rfl, rfl⟩

end Go.Proofs.Ytmgldjkgneiejaa
