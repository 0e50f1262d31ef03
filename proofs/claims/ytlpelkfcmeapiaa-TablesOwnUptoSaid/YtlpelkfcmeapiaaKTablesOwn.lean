/- The functions weirkeep.TablesOwn, told as plain functions, and that the code does as they say. -/
import Derived.Test.YtlpelkfcmeapiaaTys
import Derived.Test.YtlpelkfcmeapiaaDat
import Derived.Test.YtlpelkfcmeapiaaGassign
import Derived.Test.YtlpelkfcmeapiaaGdegree
import Derived.Test.YtlpelkfcmeapiaaGdouble
import Derived.Test.YtlpelkfcmeapiaaGgale
import Derived.Test.YtlpelkfcmeapiaaGkeep
import Derived.Test.YtlpelkfcmeapiaaGslices
namespace Go.Proofs.Ytlpelkfcmeapiaa
open Go Go.Proofs.Ytlpelkfcmeapiaa.Sx
set_option linter.unusedVariables false
set_option linter.unusedSimpArgs false
def weirkeep_TablesOwn_B1 (r11 : (List (List Int))) : Nat → (List (List Int)) → Option ((List (List Int))) := fun k21 l16 =>
 (slices_Clone_int_F (r11.getD k21 [])).bind fun r23 =>
 ck (l16.length + 1 ≤ 5864062014805) <|
 some (l16 ++ ([r23] : List (List Int)))
def weirkeep_TablesOwn_B2 (r42 : (List Piece)) : Nat → Unit → Option (Unit) := fun k51 _ =>
 (weirkeep_spoil_int_F ((r42.getD k51 El.d).arcs) (-1)).bind fun _ =>
 some ()
def weirkeep_TablesOwn_B3 (l20 : (List (List Int))) (r67 : (List (List Int))) : Nat → Unit → Option (Ct (Unit) (Bool)) := fun k74 _ =>
 ck (k74 < l20.length) <|
 (slices_Equal_int_F (r67.getD k74 []) (l20.getD k74 [])).bind fun r77 =>
 if (!r77) = true then
  some (.ret false)
 else
  some (.go ())
def weirkeep_TablesOwn_F (gain : (List (List Int))) (t : (List (List Int))) (rows : (List Int)) (cols : (List Int)) : Option (Bool) :=
 (weirkeep_assigns_F).bind fun r1 =>
 if (!r1) = true then
  some false
 else
  (weirkeep_doubles_F).bind fun r4 =>
  if (!r4) = true then
   some false
  else
   (weirkeep_gales_F).bind fun r7 =>
   if (!r7) = true then
    some false
   else
    (slices_Concat_intL_F ([gain, t] : List (List (List Int)))).bind fun r11 =>
    (forN (weirkeep_TablesOwn_B1 r11) r11.length 0 []).bind fun l20 =>
    (slices_Clone_int_F rows).bind fun r30 =>
    (slices_Clone_int_F cols).bind fun r33 =>
    (assign_Best_F gain).bind fun (r36, r38, r39) =>
    (weirkeep_spoil_int_F r36 (-1)).bind fun () =>
    (double_Split_F t).bind fun (r42, r45) =>
    (forN (weirkeep_TablesOwn_B2 r42) r42.length 0 ()).bind fun _ =>
    (gale_Make_F rows cols).bind fun (r56, r58) =>
    (weirkeep_spoil_uint16_F r56 0).bind fun () =>
    (degree_Make_F rows).bind fun (r61, r63) =>
    (weirkeep_spoil_Arc_F r61 (⟨(-1), 0, 0⟩ : Arc)).bind fun () =>
    (slices_Concat_intL_F ([gain, t] : List (List (List Int)))).bind fun r67 =>
    (forC (weirkeep_TablesOwn_B3 l20 r67) r67.length 0 ()).bind fun q => match q with
    | .go _ =>
     (assign_Best_F gain).bind fun (r81, r83, r84) =>
     (slices_Equal_int_F rows r30).bind fun r86 =>
     if r86 = true then
      (slices_Equal_int_F cols r33).bind fun r89 =>
      if r89 = true then
       if r38 = r83 then
        some (decide (r39 = r84))
       else
        some false
      else
       some false
     else
      some false
    | .ret x => some x
def weirkeep_TablesOwn_P (out : Bool) (d : D) (H : List HL) : Prop := d = .v (.bool out) ∧ H = []
theorem weirkeep_TablesOwn_I (out : Bool) : IndepP (weirkeep_TablesOwn_P out) := IndepP.of (by rintro _ _ ⟨rfl, rfl⟩; exact ⟨inferInstance, inferInstance⟩)
set_option maxRecDepth 100000 in
set_option maxHeartbeats 4000000 in
theorem weirkeep_TablesOwn_spec (gain : (List (List Int))) (t : (List (List Int))) (rows : (List Int)) (cols : (List Int)) {out : Bool} (H : weirkeep_TablesOwn_F gain t rows cols = some out) : Does Try.prog 4 [slD gain, slD t, slD rows, slD cols] [] (weirkeep_TablesOwn_P out) := by
 unfold weirkeep_TablesOwn_F at H
 refine Does.intro Try.func4 rfl Try.ntmps4 rfl fun w0 I0 => ?_
 refine GoC.seq ?_
 refine GoC.region ?_
 refine GoO.pure (ps_assign rfl rfl) ?_
 refine GoO.nil ?_
 refine GoK.code ?_
 refine GoC.seq ?_
 refine GoC.seq ?_
 refine GoC.region ?_
 have hb := bind_l H; clear H
 obtain ⟨r1, e2, H⟩ := hb
 refine GoO.effC (ef_call rfl (Take.nil _) (Take.nil _) (weirkeep_assigns_spec e2) (LendL.nil) rfl (weirkeep_assigns_I (r1))) (fun rr HH hp => ?_)
 obtain ⟨rfl, rfl⟩ := hp
 refine GoO.pure (ps_not rfl rfl) ?_
 refine GoO.pure (ps_move rfl rfl) ?_
 refine GoO.guard rfl rfl rfl rfl (fun h3 => ?_) (fun h3 => ?_)
 replace H := itb_f h3 H
 have hb := bind_l H; clear H
 obtain ⟨r4, e5, H⟩ := hb
 refine GoO.effC (ef_call rfl (Take.nil _) (Take.nil _) (weirkeep_doubles_spec e5) (LendL.nil) rfl (weirkeep_doubles_I (r4))) (fun rr HH hp => ?_)
 obtain ⟨rfl, rfl⟩ := hp
 refine GoO.guardT rfl rfl rfl ?_
 refine GoO.pure (ps_not rfl rfl) ?_
 refine GoO.pure (ps_pickF rfl rfl rfl) ?_
 refine GoO.pure (ps_move rfl rfl) ?_
 refine GoO.guard rfl rfl rfl rfl (fun h6 => ?_) (fun h6 => ?_)
 replace H := itb_f h6 H
 have hb := bind_l H; clear H
 obtain ⟨r7, e8, H⟩ := hb
 refine GoO.effC (ef_call rfl (Take.nil _) (Take.nil _) (weirkeep_gales_spec e8) (LendL.nil) rfl (weirkeep_gales_I (r7))) (fun rr HH hp => ?_)
 obtain ⟨rfl, rfl⟩ := hp
 refine GoO.guardT rfl rfl rfl ?_
 refine GoO.pure (ps_not rfl rfl) ?_
 refine GoO.pure (ps_pickF rfl rfl rfl) ?_
 refine GoO.nil ?_
 refine GoK.code ?_
 refine GoC.cond rfl (fun h9 => ?_) (fun h9 => ?_)
 replace H := itb_t h9 H
 refine GoC.seq ?_
 refine GoC.region ?_
 refine GoO.pure (ps_assign rfl rfl) ?_
 refine GoO.nil ?_
 refine GoK.code ?_
 obtain rfl := Option.some.inj H
 exact GoC.retL (ds := [.v (.bool false)]) Try.results4 (ResL.cons (ResD.tmp rfl) (ResL.nil)) (Take.nil _) ⟨rfl, rfl⟩
 replace H := itb_f h9 H
 refine GoC.skip ?_
 refine GoK.code ?_
 refine GoC.seq ?_
 refine GoC.region ?_
 refine GoO.pure (ps_assign rfl rfl) ?_
 refine GoO.nil ?_
 refine GoK.code ?_
 refine GoC.seq ?_
 refine GoC.seq ?_
 refine GoC.region ?_
 refine GoO.pure (ps_move rfl rfl) ?_
 refine GoO.pure (ps_move rfl rfl) ?_
 refine GoO.effB (ef_buildSlice (row ([gain, t] : List (List (List Int)))) rfl (Parts.cons _ _ _ _ _ _ _ _ ⟨rfl, rfl⟩ (Part.one _ rfl rfl) rfl rfl (Parts.cons _ _ _ _ _ _ _ _ ⟨rfl, rfl⟩ (Part.one _ rfl rfl) rfl rfl (Parts.nil _))) rfl rfl rfl rfl) (fun β10 => ?_)
 have hb := bind_l H; clear H
 obtain ⟨r11, e13, H⟩ := hb
 refine GoO.callF rfl (Take.nil _) (Take.cons _ _ _ _ _ Rem.p0 (Take.nil _)) (slices_Concat_intL_spec ([gain, t] : List (List (List Int))) e13) (LendL.cons (Lend.all' At.p0 (by first | rfl | omega | (simp only [subl_length, cpl_length, List.length_set, List.length_append, List.length_cons, List.length_nil, List.length_replicate, row_len] <;> first | rfl | omega)) rfl) (LendL.nil)) rfl no_fps (fun rr HH hp => ?_)
 obtain ⟨β12, rfl, rfl⟩ := hp
 refine GoO.pure (ps_len rfl (by constructor) rfl) ?_
 refine GoO.lenLe (n := r11.length) (x := .tmp 43) rfl (by constructor) own_lenLe (fun ml14 => ?_)
 refine GoO.pure (ps_move rfl rfl) ?_
 refine GoO.nil ?_
 refine GoK.code ?_
 have hb := bind_l H; clear H
 obtain ⟨l20, hl29, HK17⟩ := hb
 refine GoC.blockJ [(0, slD gain), (1, slD t), (2, slD rows), (3, slD cols)] [.one β12 30 1 (row r11)] (fun v h => ∃ (β15 : BK), v = [(9, .own β15 1 0 l20.length)] ∧ h = [.one β15 30 1 (row l20)]) ?_ ?_
 refine GoC.loopJ [(0, _), (1, _), (2, _), (3, _), (43, _), (44, _)] [.one β12 30 1 (row r11)] (fun mQ v h => ∃ (k21 : Nat) (l16 : (List (List Int))) (β15 : BK), (k21 + mQ = r11.length ∧ forN (weirkeep_TablesOwn_B1 r11) mQ k21 l16 = some l20) ∧ v = [(45, .v (.int .i64 ((k21 : Nat) : Int))), (9, .own β15 1 0 l16.length)] ∧ h = [.one β15 30 1 (row l16)]) r11.length ⟨_, _, ⟨0, 0, 0⟩, ⟨by omega, hl29⟩, rfl, rfl⟩ (EnvD.eq rfl (EnvD.cons rfl (DLe.nilOwn) (EnvD.eq rfl (EnvD.eq rfl (EnvD.eq rfl (EnvD.eq rfl (EnvD.eq rfl (EnvD.eq rfl (EnvD.nil))))))))) (TkD.no _ _ _ _ _ rfl (TkD.cons _ _ _ _ _ Rem.p0 (HLe.refl _) (TkD.nil _))) ?_
 rintro m22 v h ⟨k21, l16, β15, ⟨hkk21, hF18⟩, rfl, rfl⟩
 refine GoC.seq ?_
 refine GoC.region ?_
 refine GoO.pure (ps_lss rfl rfl rfl) ?_
 refine GoO.nil ?_
 refine GoK.code ?_
 refine GoC.seq ?_
 refine GoC.condD rfl (fun (hk21 : (k21 : Int) < ((r11.length : Nat) : Int)) => ?_) (fun (hk21 : ¬ (k21 : Int) < ((r11.length : Nat) : Int)) => ?_)
 obtain ⟨m22', rfl⟩ : ∃ x, m22 = x + 1 := ⟨m22 - 1, by omega⟩
 have hb := bind_l hF18; clear hF18
 obtain ⟨qrm22, H, hF18⟩ := hb
 have hnk21 : k21 < r11.length := by omega
 have hIk21 : InI ((k21 : Int) + 1) := inI_len hk21 ml14
 refine GoC.skip ?_
 refine GoK.code ?_
 refine GoC.seq ?_
 refine GoC.block ?_
 refine GoC.seq ?_
 refine GoC.region ?_
 refine GoO.pure (ps_indexAddr0N rfl rfl hnk21 rfl) ?_
 refine GoO.pure (ps_load rfl At.p1 At.p1 hnk21 rfl rfl) ?_
 refine GoO.pure (ps_assign rfl rfl) ?_
 refine GoO.nil ?_
 refine GoK.code ?_
 refine GoC.region ?_
 refine GoO.pure (ps_move rfl rfl) ?_
 refine GoO.pure (ps_move rfl rfl) ?_
 have hb := bind_l H; clear H
 obtain ⟨r23, e25, H⟩ := hb
 refine GoO.effC (ef_call rfl (Take.nil _) (Take.nil _) (slices_Clone_int_spec (r11.getD k21 []) e25) (LendL.cons (Lend.refl _ _) (LendL.nil)) rfl (slices_Clone_int_I (r23))) (fun rr HH hp => ?_)
 obtain ⟨β24, rfl, rfl⟩ := hp
 refine GoO.freezeJ (j := 51) rfl Rem.p0 (Lend.all' At.p0 (by first | rfl | omega | (simp only [row_len, gridC_len, rowO_len] <;> first | rfl | omega)) rfl) no_fps ?_
 refine GoO.effB (ef_buildSlice (row ([r23] : List (List Int))) rfl (Parts.cons _ _ _ _ _ _ _ _ ⟨rfl, rfl⟩ (Part.one _ rfl rfl) rfl rfl (Parts.nil _)) rfl rfl rfl rfl) (fun β26 => ?_)
 have c28 := ck_l H; replace H := ck_r H
 refine GoO.effB (ef_append rfl rfl Rem.p1 (Src.own At.p0 (by first | omega | (simp only [subl_length, cpl_length, List.length_set, List.length_append, List.length_cons, List.length_nil, List.length_replicate, row_len]; omega) | (simp only [subl_length, cpl_length, List.length_set, List.length_append, List.length_cons, List.length_nil, List.length_replicate, row_len]; done))) (cat_row (α := (List Int)) (by first | rfl | omega | (simp only [subl_length, cpl_length, List.length_set, List.length_append, List.length_cons, List.length_nil, List.length_replicate, row_len] <;> first | rfl | omega)) (by first | rfl | omega | (simp only [subl_length, cpl_length, List.length_set, List.length_append, List.length_cons, List.length_nil, List.length_replicate, row_len] <;> first | rfl | omega)) (fun _ _ _ _ => rfl)) (by first | omega | (simp only [subl_length, cpl_length, List.length_set, List.length_append, List.length_cons, List.length_nil, List.length_replicate, row_len]; omega) | (simp only [subl_length, cpl_length, List.length_set, List.length_append, List.length_cons, List.length_nil, List.length_replicate, row_len]; done)) (app_le c28 rfl) rfl rfl rfl) (fun β27 => ?_)
 refine GoO.pure (ps_assign rfl rfl) ?_
 refine GoO.nil ?_
 refine GoK.blk ?_
 refine GoK.code ?_
 refine GoC.region ?_
 refine GoO.pure (ps_add rfl rfl rfl hIk21) ?_
 refine GoO.pure (ps_move rfl rfl) ?_
 refine GoO.nil ?_
 obtain rfl := Option.some.inj H
 exact GoK.againJ m22' (by omega) ⟨_, _, β27, ⟨by omega, hF18⟩, rfl, rfl⟩ (EnvD.eq rfl (EnvD.cons rfl (DLe.len (by first | rfl | omega | (simp only [row_len, gridC_len, rowO_len, List.length_append, List.length_cons, List.length_nil] <;> first | rfl | omega))) (EnvD.eq rfl (EnvD.eq rfl (EnvD.eq rfl (EnvD.eq rfl (EnvD.eq rfl (EnvD.eq rfl (EnvD.nil))))))))) (TkD.cons _ _ _ _ _ Rem.p0 (HLe.refl _) (TkD.cons _ _ _ _ _ Rem.p1 (HLe.refl _) (TkD.nil _)))
 obtain rfl : m22 = 0 := by omega
 refine GoC.exit rfl ?_
 cases hF18
 exact GoK.meet ⟨β15, rfl, rfl⟩ (EnvD.cons rfl (DLe.len (by first | rfl | omega | (simp only [row_len, gridC_len, rowO_len] <;> first | rfl | omega))) (EnvD.eq rfl (EnvD.eq rfl (EnvD.eq rfl (EnvD.eq rfl (EnvD.nil)))))) (TkD.cons _ _ _ _ _ Rem.p0 (HLe.refl _) (TkD.cons _ _ _ _ _ Rem.p0 (HLe.refl _) (TkD.nil _)))
 rintro v h ⟨β15, rfl, rfl⟩
 have H := HK17; clear HK17
 refine GoK.code ?_
 refine GoC.seq ?_
 refine GoC.region ?_
 refine GoO.pure (ps_move rfl rfl) ?_
 have hb := bind_l H; clear H
 obtain ⟨r30, e32, H⟩ := hb
 refine GoO.effC (ef_call rfl (Take.nil _) (Take.nil _) (slices_Clone_int_spec rows e32) (LendL.cons (Lend.refl _ _) (LendL.nil)) rfl (slices_Clone_int_I (r30))) (fun rr HH hp => ?_)
 obtain ⟨β31, rfl, rfl⟩ := hp
 refine GoO.pure (ps_move rfl rfl) ?_
 have hb := bind_l H; clear H
 obtain ⟨r33, e35, H⟩ := hb
 refine GoO.effC (ef_call rfl (Take.nil _) (Take.nil _) (slices_Clone_int_spec cols e35) (LendL.cons (Lend.refl _ _) (LendL.nil)) rfl (slices_Clone_int_I (r33))) (fun rr HH hp => ?_)
 obtain ⟨β34, rfl, rfl⟩ := hp
 refine GoO.pure (ps_assign rfl rfl) ?_
 refine GoO.pure (ps_assign rfl rfl) ?_
 refine GoO.nil ?_
 refine GoK.code ?_
 refine GoC.seq ?_
 refine GoC.region ?_
 refine GoO.pure (ps_move rfl rfl) ?_
 have hb := bind_l H; clear H
 obtain ⟨⟨r36, r38, r39⟩, e40, H⟩ := hb
 refine GoO.effC (ef_call rfl (Take.nil _) (Take.nil _) (assign_Best_spec gain e40) (LendL.cons (Lend.refl _ _) (LendL.nil)) rfl (assign_Best_I (r36, r38, r39))) (fun rr HH hp => ?_)
 obtain ⟨β37, rfl, rfl⟩ := hp
 refine GoO.pure (ps_move rfl rfl) ?_
 refine GoO.pure (ps_extract rfl rfl rfl) ?_
 refine GoO.pure (ps_extract rfl rfl rfl) ?_
 refine GoO.pure (ps_extract rfl rfl rfl) ?_
 refine GoO.pure (ps_assign rfl rfl) ?_
 refine GoO.pure (ps_assign rfl rfl) ?_
 refine GoO.pure (ps_assign rfl rfl) ?_
 refine GoO.nil ?_
 refine GoK.code ?_
 refine GoC.seq ?_
 refine GoC.region ?_
 refine GoO.pure (ps_move rfl rfl) ?_
 have hb := bind_l H; clear H
 obtain ⟨⟨⟩, e41, H⟩ := hb
 refine GoO.effC (ef_call rfl (Take.cons _ _ _ _ _ Rem.p0 (Take.nil _)) (Take.nil _) (weirkeep_spoil_int_spec r36 (-1) β37 e41) (LendL.cons (Lend.refl _ _) (LendL.cons (Lend.refl _ _) (LendL.nil))) rfl (weirkeep_spoil_int_I () β37)) (fun rr HH hp => ?_)
 obtain ⟨rfl, rfl⟩ := hp
 refine GoO.nil ?_
 refine GoK.code ?_
 refine GoC.seq ?_
 refine GoC.region ?_
 refine GoO.pure (ps_move rfl rfl) ?_
 have hb := bind_l H; clear H
 obtain ⟨⟨r42, r45⟩, e46, H⟩ := hb
 refine GoO.effC (ef_call rfl (Take.nil _) (Take.nil _) (double_Split_spec t e46) (LendL.cons (Lend.refl _ _) (LendL.nil)) rfl (double_Split_I (r42, r45))) (fun rr HH hp => ?_)
 obtain ⟨β43, Γ44, rfl, rfl⟩ := hp
 refine GoO.le (Le.reH At.p1 (HLe.forget (α := Piece))) ?_
 refine GoO.pure (ps_move rfl rfl) ?_
 refine GoO.pure (ps_extract rfl rfl rfl) ?_
 refine GoO.pure (ps_extract rfl rfl rfl) ?_
 refine GoO.pure (ps_assign rfl rfl) ?_
 refine GoO.pure (ps_assign rfl rfl) ?_
 refine GoO.nil ?_
 refine GoK.code ?_
 refine GoC.seq ?_
 refine GoC.seq ?_
 refine GoC.region ?_
 refine GoO.pure (ps_move rfl rfl) ?_
 refine GoO.pure (ps_len rfl (by constructor) rfl) ?_
 refine GoO.lenLe (n := r42.length) (x := .tmp 72) rfl (by constructor) own_lenLe (fun ml47 => ?_)
 refine GoO.pure (ps_move rfl rfl) ?_
 refine GoO.nil ?_
 refine GoK.code ?_
 have hb := bind_l H; clear H
 obtain ⟨⟨⟩, hl55, HK48⟩ := hb
 refine GoC.blockJ [(0, slD gain), (1, slD t), (2, slD rows), (3, slD cols), (9, .own β15 1 0 l20.length), (12, .own β31 1 0 r30.length), (13, .own β34 1 0 r33.length), (15, .v (.int .i64 r38)), (16, .v (.int .i64 r39))] [.one β43 50 2 (gridS (α := Piece) Γ44 r42), rawH 3 Γ44 1 r42.length, .one β34 3 1 (row r33), .one β31 3 1 (row r30), .one β15 30 1 (row l20), .one β12 30 1 (row r11)] (fun v h => v = [] ∧ h = []) ?_ ?_
 refine GoC.loopJ [(0, _), (1, _), (2, _), (3, _), (9, _), (12, _), (13, _), (15, _), (16, _), (72, _), (73, _)] [.one β43 50 2 (gridS (α := Piece) Γ44 r42), rawH 3 Γ44 1 r42.length, .one β34 3 1 (row r33), .one β31 3 1 (row r30), .one β15 30 1 (row l20), .one β12 30 1 (row r11)] (fun mQ v h => ∃ (k51 : Nat), (k51 + mQ = r42.length ∧ forN (weirkeep_TablesOwn_B2 r42) mQ k51 () = some ()) ∧ v = [(74, .v (.int .i64 ((k51 : Nat) : Int)))] ∧ h = []) r42.length ⟨_, ⟨by omega, hl55⟩, rfl, rfl⟩ (EnvD.eq rfl (EnvD.eq rfl (EnvD.eq rfl (EnvD.eq rfl (EnvD.eq rfl (EnvD.eq rfl (EnvD.eq rfl (EnvD.eq rfl (EnvD.eq rfl (EnvD.eq rfl (EnvD.eq rfl (EnvD.eq rfl (EnvD.nil))))))))))))) (TkD.cons _ _ _ _ _ Rem.p0 (HLe.refl _) (TkD.cons _ _ _ _ _ Rem.p0 (HLe.refl _) (TkD.cons _ _ _ _ _ Rem.p0 (HLe.refl _) (TkD.cons _ _ _ _ _ Rem.p0 (HLe.refl _) (TkD.cons _ _ _ _ _ Rem.p0 (HLe.refl _) (TkD.cons _ _ _ _ _ Rem.p0 (HLe.refl _) (TkD.nil _))))))) ?_
 rintro m52 v h ⟨k51, ⟨hkk51, hF49⟩, rfl, rfl⟩
 refine GoC.seq ?_
 refine GoC.region ?_
 refine GoO.pure (ps_lss rfl rfl rfl) ?_
 refine GoO.nil ?_
 refine GoK.code ?_
 refine GoC.seq ?_
 refine GoC.condD rfl (fun (hk51 : (k51 : Int) < ((r42.length : Nat) : Int)) => ?_) (fun (hk51 : ¬ (k51 : Int) < ((r42.length : Nat) : Int)) => ?_)
 obtain ⟨m52', rfl⟩ : ∃ x, m52 = x + 1 := ⟨m52 - 1, by omega⟩
 have hb := bind_l hF49; clear hF49
 obtain ⟨qrm52, H, hF49⟩ := hb
 have hnk51 : k51 < r42.length := by omega
 have hIk51 : InI ((k51 : Int) + 1) := inI_len hk51 ml47
 refine GoC.skip ?_
 refine GoK.code ?_
 refine GoC.seq ?_
 refine GoC.block ?_
 refine GoC.seq ?_
 refine GoC.region ?_
 refine GoO.pure (ps_indexAddr0N rfl rfl hnk51 rfl) ?_
 refine GoO.pure (ps_loadAg rfl At.p0 At.p0 hnk51 rfl rfl) ?_
 refine GoO.effB (ef_alloc rfl) (fun β53 => ?_)
 refine GoO.eff1 (ef_storeAg rfl rfl At.p0 upd_whole Nat.zero_lt_one rfl) ?_
 refine GoO.nil ?_
 refine GoK.code ?_
 refine GoC.region ?_
 refine GoO.pure (ps_fieldAddr rfl rfl) ?_
 refine GoO.pure (ps_load rfl At.p0 At.p0 Nat.zero_lt_one rfl rfl) ?_
 have hb := bind_l H; clear H
 obtain ⟨_, e54, H⟩ := hb
 refine GoO.effC (ef_call rfl (Take.cons _ _ _ _ _ Rem.p2 (Take.nil _)) (Take.nil _) (Does.inMany hnk51 (weirkeep_spoil_int_specR (((r42.getD k51 El.d).arcs).length) (-1) (Γ44 k51))) (LendL.cons (Lend.refl _ _) (LendL.cons (Lend.refl _ _) (LendL.nil))) rfl (IndepP.of (by rintro _ _ ⟨rfl, rfl⟩; exact ⟨inferInstance, inferInstance⟩))) (fun rr HH hp => ?_)
 obtain ⟨rfl, rfl⟩ := hp
 refine GoO.nil ?_
 refine GoK.blk ?_
 refine GoK.code ?_
 refine GoC.region ?_
 refine GoO.pure (ps_add rfl rfl rfl hIk51) ?_
 refine GoO.pure (ps_move rfl rfl) ?_
 refine GoO.nil ?_
 obtain rfl := Option.some.inj H
 exact GoK.againJ m52' (by omega) ⟨_, ⟨by omega, hF49⟩, rfl, rfl⟩ (EnvD.eq rfl (EnvD.eq rfl (EnvD.eq rfl (EnvD.eq rfl (EnvD.eq rfl (EnvD.eq rfl (EnvD.eq rfl (EnvD.eq rfl (EnvD.eq rfl (EnvD.eq rfl (EnvD.eq rfl (EnvD.eq rfl (EnvD.nil))))))))))))) (TkD.cons _ _ _ _ _ Rem.p2 (HLe.refl _) (TkD.cons _ _ _ _ _ Rem.p0 (HLe.refl _) (TkD.cons _ _ _ _ _ Rem.p1 (HLe.refl _) (TkD.cons _ _ _ _ _ Rem.p1 (HLe.refl _) (TkD.cons _ _ _ _ _ Rem.p1 (HLe.refl _) (TkD.cons _ _ _ _ _ Rem.p1 (HLe.refl _) (TkD.nil _)))))))
 obtain rfl : m52 = 0 := by omega
 refine GoC.exit rfl ?_
 cases hF49
 exact GoK.meet ⟨rfl, rfl⟩ (EnvD.eq rfl (EnvD.eq rfl (EnvD.eq rfl (EnvD.eq rfl (EnvD.eq rfl (EnvD.eq rfl (EnvD.eq rfl (EnvD.eq rfl (EnvD.eq rfl (EnvD.nil)))))))))) (TkD.cons _ _ _ _ _ Rem.p0 (HLe.refl _) (TkD.cons _ _ _ _ _ Rem.p0 (HLe.refl _) (TkD.cons _ _ _ _ _ Rem.p0 (HLe.refl _) (TkD.cons _ _ _ _ _ Rem.p0 (HLe.refl _) (TkD.cons _ _ _ _ _ Rem.p0 (HLe.refl _) (TkD.cons _ _ _ _ _ Rem.p0 (HLe.refl _) (TkD.nil _)))))))
 rintro v h ⟨rfl, rfl⟩
 have H := HK48; clear HK48
 refine GoK.code ?_
 refine GoC.seq ?_
 refine GoC.region ?_
 refine GoO.pure (ps_move rfl rfl) ?_
 refine GoO.pure (ps_move rfl rfl) ?_
 have hb := bind_l H; clear H
 obtain ⟨⟨r56, r58⟩, e59, H⟩ := hb
 refine GoO.effC (ef_call rfl (Take.nil _) (Take.nil _) (gale_Make_spec rows cols e59) (LendL.cons (Lend.refl _ _) (LendL.cons (Lend.refl _ _) (LendL.nil))) rfl (gale_Make_I (r56, r58))) (fun rr HH hp => ?_)
 obtain ⟨β57, rfl, rfl⟩ := hp
 refine GoO.pure (ps_move rfl rfl) ?_
 refine GoO.pure (ps_extract rfl rfl rfl) ?_
 refine GoO.pure (ps_extract rfl rfl rfl) ?_
 refine GoO.pure (ps_assign rfl rfl) ?_
 refine GoO.pure (ps_assign rfl rfl) ?_
 refine GoO.nil ?_
 refine GoK.code ?_
 refine GoC.seq ?_
 refine GoC.region ?_
 refine GoO.pure (ps_move rfl rfl) ?_
 have hb := bind_l H; clear H
 obtain ⟨⟨⟩, e60, H⟩ := hb
 refine GoO.effC (ef_call rfl (Take.cons _ _ _ _ _ Rem.p0 (Take.nil _)) (Take.nil _) (weirkeep_spoil_uint16_spec r56 0 β57 e60) (LendL.cons (Lend.refl _ _) (LendL.cons (Lend.refl _ _) (LendL.nil))) rfl (weirkeep_spoil_uint16_I () β57)) (fun rr HH hp => ?_)
 obtain ⟨rfl, rfl⟩ := hp
 refine GoO.nil ?_
 refine GoK.code ?_
 refine GoC.seq ?_
 refine GoC.region ?_
 refine GoO.pure (ps_move rfl rfl) ?_
 have hb := bind_l H; clear H
 obtain ⟨⟨r61, r63⟩, e64, H⟩ := hb
 refine GoO.effC (ef_call rfl (Take.nil _) (Take.nil _) (degree_Make_spec rows e64) (LendL.cons (Lend.refl _ _) (LendL.nil)) rfl (degree_Make_I (r61, r63))) (fun rr HH hp => ?_)
 obtain ⟨β62, rfl, rfl⟩ := hp
 refine GoO.pure (ps_move rfl rfl) ?_
 refine GoO.pure (ps_extract rfl rfl rfl) ?_
 refine GoO.pure (ps_extract rfl rfl rfl) ?_
 refine GoO.pure (ps_assign rfl rfl) ?_
 refine GoO.pure (ps_assign rfl rfl) ?_
 refine GoO.nil ?_
 refine GoK.code ?_
 refine GoC.seq ?_
 refine GoC.region ?_
 refine GoO.pure (ps_move rfl rfl) ?_
 refine GoO.pure (ps_build (Parts.cons _ _ _ _ _ _ _ _ FdP.of (Part.one _ rfl rfl) rfl rfl (Parts.nil _)) rfl) ?_
 have hb := bind_l H; clear H
 obtain ⟨⟨⟩, e65, H⟩ := hb
 refine GoO.effC (ef_call rfl (Take.cons _ _ _ _ _ Rem.p0 (Take.nil _)) (Take.nil _) (weirkeep_spoil_Arc_spec r61 (⟨(-1), 0, 0⟩ : Arc) β62 e65) (LendL.cons (Lend.refl _ _) (LendL.cons (Lend.agA ⟨⟨⟨trivial, Lend.refl _ _⟩, Lend.refl _ _⟩, Lend.refl _ _⟩) (LendL.nil))) rfl (weirkeep_spoil_Arc_I () β62)) (fun rr HH hp => ?_)
 obtain ⟨rfl, rfl⟩ := hp
 refine GoO.nil ?_
 refine GoK.code ?_
 refine GoC.seq ?_
 refine GoC.seq ?_
 refine GoC.region ?_
 refine GoO.pure (ps_move rfl rfl) ?_
 refine GoO.pure (ps_move rfl rfl) ?_
 refine GoO.effB (ef_buildSlice (row ([gain, t] : List (List (List Int)))) rfl (Parts.cons _ _ _ _ _ _ _ _ ⟨rfl, rfl⟩ (Part.one _ rfl rfl) rfl rfl (Parts.cons _ _ _ _ _ _ _ _ ⟨rfl, rfl⟩ (Part.one _ rfl rfl) rfl rfl (Parts.nil _))) rfl rfl rfl rfl) (fun β66 => ?_)
 have hb := bind_l H; clear H
 obtain ⟨r67, e69, H⟩ := hb
 refine GoO.callF rfl (Take.nil _) (Take.cons _ _ _ _ _ Rem.p0 (Take.nil _)) (slices_Concat_intL_spec ([gain, t] : List (List (List Int))) e69) (LendL.cons (Lend.all' At.p0 (by first | rfl | omega | (simp only [subl_length, cpl_length, List.length_set, List.length_append, List.length_cons, List.length_nil, List.length_replicate, row_len] <;> first | rfl | omega)) rfl) (LendL.nil)) rfl no_fps (fun rr HH hp => ?_)
 obtain ⟨β68, rfl, rfl⟩ := hp
 refine GoO.pure (ps_len rfl (by constructor) rfl) ?_
 refine GoO.lenLe (n := r67.length) (x := .tmp 101) rfl (by constructor) own_lenLe (fun ml70 => ?_)
 refine GoO.pure (ps_move rfl rfl) ?_
 refine GoO.nil ?_
 refine GoK.code ?_
 have hb := bind_l H; clear H
 obtain ⟨q73, hl80, HK71⟩ := hb
 refine GoC.blockJ [(0, slD gain), (2, slD rows), (3, slD cols), (12, .own β31 1 0 r30.length), (13, .own β34 1 0 r33.length), (15, .v (.int .i64 r38)), (16, .v (.int .i64 r39))] [.one β68 30 1 (row r67), .one β43 50 2 (gridS (α := Piece) Γ44 r42), rawH 3 Γ44 1 r42.length, .one β34 3 1 (row r33), .one β31 3 1 (row r30), .one β15 30 1 (row l20), .one β12 30 1 (row r11)] (fun v h => q73 = .go () ∧ v = [] ∧ h = []) ?_ ?_
 refine GoC.loopJ [(0, _), (2, _), (3, _), (9, _), (12, _), (13, _), (15, _), (16, _), (101, _), (102, _)] [.one β68 30 1 (row r67), .one β43 50 2 (gridS (α := Piece) Γ44 r42), rawH 3 Γ44 1 r42.length, .one β34 3 1 (row r33), .one β31 3 1 (row r30), .one β15 30 1 (row l20), .one β12 30 1 (row r11)] (fun mQ v h => ∃ (k74 : Nat), (k74 + mQ = r67.length ∧ forC (weirkeep_TablesOwn_B3 l20 r67) mQ k74 () = some q73) ∧ v = [(103, .v (.int .i64 ((k74 : Nat) : Int)))] ∧ h = []) r67.length ⟨_, ⟨by omega, hl80⟩, rfl, rfl⟩ (EnvD.eq rfl (EnvD.eq rfl (EnvD.eq rfl (EnvD.eq rfl (EnvD.eq rfl (EnvD.eq rfl (EnvD.eq rfl (EnvD.eq rfl (EnvD.eq rfl (EnvD.eq rfl (EnvD.eq rfl (EnvD.nil)))))))))))) (TkD.cons _ _ _ _ _ Rem.p0 (HLe.refl _) (TkD.cons _ _ _ _ _ Rem.p0 (HLe.refl _) (TkD.cons _ _ _ _ _ Rem.p0 (HLe.refl _) (TkD.cons _ _ _ _ _ Rem.p0 (HLe.refl _) (TkD.cons _ _ _ _ _ Rem.p0 (HLe.refl _) (TkD.cons _ _ _ _ _ Rem.p0 (HLe.refl _) (TkD.cons _ _ _ _ _ Rem.p0 (HLe.refl _) (TkD.nil _)))))))) ?_
 rintro m75 v h ⟨k74, ⟨hkk74, hF72⟩, rfl, rfl⟩
 refine GoC.seq ?_
 refine GoC.region ?_
 refine GoO.pure (ps_lss rfl rfl rfl) ?_
 refine GoO.nil ?_
 refine GoK.code ?_
 refine GoC.seq ?_
 refine GoC.condD rfl (fun (hk74 : (k74 : Int) < ((r67.length : Nat) : Int)) => ?_) (fun (hk74 : ¬ (k74 : Int) < ((r67.length : Nat) : Int)) => ?_)
 obtain ⟨m75', rfl⟩ : ∃ x, m75 = x + 1 := ⟨m75 - 1, by omega⟩
 have hb := bind_l hF72; clear hF72
 obtain ⟨qrm75, H, hF72⟩ := hb
 have hnk74 : k74 < r67.length := by omega
 have hIk74 : InI ((k74 : Int) + 1) := inI_len hk74 ml70
 refine GoC.skip ?_
 refine GoK.code ?_
 refine GoC.seq ?_
 refine GoC.block ?_
 refine GoC.seq ?_
 refine GoC.region ?_
 refine GoO.pure (ps_move rfl rfl) ?_
 refine GoO.pure (ps_indexAddr0N rfl rfl hnk74 rfl) ?_
 refine GoO.pure (ps_load rfl At.p0 At.p0 hnk74 rfl rfl) ?_
 refine GoO.pure (ps_assign rfl rfl) ?_
 refine GoO.pure (ps_assign rfl rfl) ?_
 refine GoO.nil ?_
 refine GoK.code ?_
 refine GoC.seq ?_
 refine GoC.region ?_
 refine GoO.pure (ps_move rfl rfl) ?_
 refine GoO.pure (ps_move rfl rfl) ?_
 refine GoO.pure (ps_move rfl rfl) ?_
 have c76 := ck_l H; replace H := ck_r H
 refine GoO.pure (ps_indexAddr0N rfl rfl c76 rfl) ?_
 refine GoO.pure (ps_load rfl At.p5 At.p5 c76 rfl rfl) ?_
 have hb := bind_l H; clear H
 obtain ⟨r77, e78, H⟩ := hb
 refine GoO.effC (ef_call rfl (Take.nil _) (Take.nil _) (slices_Equal_int_spec (r67.getD k74 []) (l20.getD k74 []) e78) (LendL.cons (Lend.refl _ _) (LendL.cons (Lend.refl _ _) (LendL.nil))) rfl (slices_Equal_int_I (r77))) (fun rr HH hp => ?_)
 obtain ⟨rfl, rfl⟩ := hp
 refine GoO.pure (ps_not rfl rfl) ?_
 refine GoO.nil ?_
 refine GoK.code ?_
 refine GoC.cond rfl (fun h79 => ?_) (fun h79 => ?_)
 replace H := itb_t h79 H
 refine GoC.seq ?_
 refine GoC.region ?_
 refine GoO.pure (ps_assign rfl rfl) ?_
 refine GoO.nil ?_
 refine GoK.code ?_
 obtain rfl := Option.some.inj H
 obtain rfl := Option.some.inj hF72
 obtain rfl := Option.some.inj HK71
 exact GoC.retL (ds := [.v (.bool false)]) Try.results4 (ResL.cons (ResD.tmp rfl) (ResL.nil)) (Take.nil _) ⟨rfl, rfl⟩
 replace H := itb_f h79 H
 refine GoC.skip ?_
 refine GoK.blk ?_
 refine GoK.code ?_
 refine GoC.region ?_
 refine GoO.pure (ps_add rfl rfl rfl hIk74) ?_
 refine GoO.pure (ps_move rfl rfl) ?_
 refine GoO.nil ?_
 obtain rfl := Option.some.inj H
 exact GoK.againJ m75' (by omega) ⟨_, ⟨by omega, hF72⟩, rfl, rfl⟩ (EnvD.eq rfl (EnvD.eq rfl (EnvD.eq rfl (EnvD.eq rfl (EnvD.eq rfl (EnvD.eq rfl (EnvD.eq rfl (EnvD.eq rfl (EnvD.eq rfl (EnvD.eq rfl (EnvD.eq rfl (EnvD.nil)))))))))))) (TkD.cons _ _ _ _ _ Rem.p0 (HLe.refl _) (TkD.cons _ _ _ _ _ Rem.p0 (HLe.refl _) (TkD.cons _ _ _ _ _ Rem.p0 (HLe.refl _) (TkD.cons _ _ _ _ _ Rem.p0 (HLe.refl _) (TkD.cons _ _ _ _ _ Rem.p0 (HLe.refl _) (TkD.cons _ _ _ _ _ Rem.p0 (HLe.refl _) (TkD.cons _ _ _ _ _ Rem.p0 (HLe.refl _) (TkD.nil _))))))))
 obtain rfl : m75 = 0 := by omega
 refine GoC.exit rfl ?_
 cases hF72
 exact GoK.meet ⟨rfl, rfl, rfl⟩ (EnvD.eq rfl (EnvD.eq rfl (EnvD.eq rfl (EnvD.eq rfl (EnvD.eq rfl (EnvD.eq rfl (EnvD.eq rfl (EnvD.nil)))))))) (TkD.cons _ _ _ _ _ Rem.p0 (HLe.refl _) (TkD.cons _ _ _ _ _ Rem.p0 (HLe.refl _) (TkD.cons _ _ _ _ _ Rem.p0 (HLe.refl _) (TkD.cons _ _ _ _ _ Rem.p0 (HLe.refl _) (TkD.cons _ _ _ _ _ Rem.p0 (HLe.refl _) (TkD.cons _ _ _ _ _ Rem.p0 (HLe.refl _) (TkD.cons _ _ _ _ _ Rem.p0 (HLe.refl _) (TkD.nil _))))))))
 rintro v h ⟨rfl, rfl, rfl⟩
 have H := HK71; clear HK71
 refine GoK.code ?_
 refine GoC.seq ?_
 refine GoC.region ?_
 refine GoO.pure (ps_move rfl rfl) ?_
 have hb := bind_l H; clear H
 obtain ⟨⟨r81, r83, r84⟩, e85, H⟩ := hb
 refine GoO.effC (ef_call rfl (Take.nil _) (Take.nil _) (assign_Best_spec gain e85) (LendL.cons (Lend.refl _ _) (LendL.nil)) rfl (assign_Best_I (r81, r83, r84))) (fun rr HH hp => ?_)
 obtain ⟨β82, rfl, rfl⟩ := hp
 refine GoO.pure (ps_move rfl rfl) ?_
 refine GoO.pure (ps_extract rfl rfl rfl) ?_
 refine GoO.pure (ps_extract rfl rfl rfl) ?_
 refine GoO.pure (ps_extract rfl rfl rfl) ?_
 refine GoO.pure (ps_assign rfl rfl) ?_
 refine GoO.pure (ps_assign rfl rfl) ?_
 refine GoO.pure (ps_assign rfl rfl) ?_
 refine GoO.nil ?_
 refine GoK.code ?_
 refine GoC.seq ?_
 refine GoC.region ?_
 refine GoO.pure (ps_move rfl rfl) ?_
 refine GoO.pure (ps_move rfl rfl) ?_
 have hb := bind_l H; clear H
 obtain ⟨r86, e87, H⟩ := hb
 refine GoO.effC (ef_call rfl (Take.nil _) (Take.cons _ _ _ _ _ Rem.p5 (Take.nil _)) (slices_Equal_int_spec rows r30 e87) (LendL.cons (Lend.refl _ _) (LendL.cons (Lend.all' At.p0 (by first | rfl | omega | (simp only [subl_length, cpl_length, List.length_set, List.length_append, List.length_cons, List.length_nil, List.length_replicate, row_len] <;> first | rfl | omega)) rfl) (LendL.nil))) rfl (slices_Equal_int_I (r86))) (fun rr HH hp => ?_)
 obtain ⟨rfl, rfl⟩ := hp
 refine GoO.pure (ps_move rfl rfl) ?_
 refine GoO.guard rfl rfl rfl rfl (fun h88 => ?_) (fun h88 => ?_)
 replace H := itb_t h88 H
 refine GoO.pure (ps_move rfl rfl) ?_
 refine GoO.guardT rfl rfl rfl ?_
 refine GoO.pure (ps_move rfl rfl) ?_
 refine GoO.guardT rfl rfl rfl ?_
 have hb := bind_l H; clear H
 obtain ⟨r89, e90, H⟩ := hb
 refine GoO.effC (ef_call rfl (Take.nil _) (Take.cons _ _ _ _ _ Rem.p4 (Take.nil _)) (slices_Equal_int_spec cols r33 e90) (LendL.cons (Lend.refl _ _) (LendL.cons (Lend.all' At.p0 (by first | rfl | omega | (simp only [subl_length, cpl_length, List.length_set, List.length_append, List.length_cons, List.length_nil, List.length_replicate, row_len] <;> first | rfl | omega)) rfl) (LendL.nil))) rfl (slices_Equal_int_I (r89))) (fun rr HH hp => ?_)
 obtain ⟨rfl, rfl⟩ := hp
 refine GoO.pure (ps_pickT rfl rfl rfl) ?_
 refine GoO.pure (ps_move rfl rfl) ?_
 refine GoO.guard rfl rfl rfl rfl (fun h91 => ?_) (fun h91 => ?_)
 replace H := itb_t h91 H
 refine GoO.pure (ps_move rfl rfl) ?_
 refine GoO.guardT rfl rfl rfl ?_
 refine GoO.pure (ps_move rfl rfl) ?_
 refine GoO.guardT rfl rfl rfl ?_
 refine GoO.pure (ps_eql rfl rfl rfl) ?_
 refine GoO.pure (ps_pickT rfl rfl rfl) ?_
 refine GoO.pure (ps_move rfl rfl) ?_
 refine GoO.guardD rfl rfl rfl rfl (fun h92 => ?_) (fun h92 => ?_)
 replace H := ite_t h92 H
 refine GoO.pure (ps_move rfl rfl) ?_
 refine GoO.guardT rfl rfl rfl ?_
 refine GoO.pure (ps_move rfl rfl) ?_
 refine GoO.guardT rfl rfl rfl ?_
 refine GoO.pure (ps_eql rfl rfl rfl) ?_
 refine GoO.pure (ps_pickT rfl rfl rfl) ?_
 refine GoO.pure (ps_assign rfl rfl) ?_
 refine GoO.nil ?_
 refine GoK.code ?_
 obtain rfl := Option.some.inj H
 exact GoC.retL (ds := [.v (.bool (decide (r39 = r84)))]) Try.results4 (ResL.cons (ResD.tmp rfl) (ResL.nil)) (Take.nil _) ⟨rfl, rfl⟩
 replace H := ite_f h92 H
 refine GoO.guardF rfl rfl rfl rfl ?_
 refine GoO.guardF rfl rfl rfl rfl ?_
 refine GoO.pure (ps_pickF rfl rfl rfl) ?_
 refine GoO.pure (ps_assign rfl rfl) ?_
 refine GoO.nil ?_
 refine GoK.code ?_
 obtain rfl := Option.some.inj H
 exact GoC.retL (ds := [.v (.bool false)]) Try.results4 (ResL.cons (ResD.tmp rfl) (ResL.nil)) (Take.nil _) ⟨rfl, rfl⟩
 replace H := itb_f h91 H
 refine GoO.guardF rfl rfl rfl rfl ?_
 refine GoO.guardF rfl rfl rfl rfl ?_
 refine GoO.pure (ps_pickF rfl rfl rfl) ?_
 refine GoO.pure (ps_move rfl rfl) ?_
 refine GoO.guardF rfl rfl rfl rfl ?_
 refine GoO.guardF rfl rfl rfl rfl ?_
 refine GoO.guardF rfl rfl rfl rfl ?_
 refine GoO.pure (ps_pickF rfl rfl rfl) ?_
 refine GoO.pure (ps_assign rfl rfl) ?_
 refine GoO.nil ?_
 refine GoK.code ?_
 obtain rfl := Option.some.inj H
 exact GoC.retL (ds := [.v (.bool false)]) Try.results4 (ResL.cons (ResD.tmp rfl) (ResL.nil)) (Take.nil _) ⟨rfl, rfl⟩
 replace H := itb_f h88 H
 refine GoO.guardF rfl rfl rfl rfl ?_
 refine GoO.guardF rfl rfl rfl rfl ?_
 refine GoO.pure (ps_pickF rfl rfl rfl) ?_
 refine GoO.pure (ps_move rfl rfl) ?_
 refine GoO.guardF rfl rfl rfl rfl ?_
 refine GoO.guardF rfl rfl rfl rfl ?_
 refine GoO.guardF rfl rfl rfl rfl ?_
 refine GoO.pure (ps_pickF rfl rfl rfl) ?_
 refine GoO.pure (ps_move rfl rfl) ?_
 refine GoO.guardF rfl rfl rfl rfl ?_
 refine GoO.guardF rfl rfl rfl rfl ?_
 refine GoO.guardF rfl rfl rfl rfl ?_
 refine GoO.pure (ps_pickF rfl rfl rfl) ?_
 refine GoO.pure (ps_assign rfl rfl) ?_
 refine GoO.nil ?_
 refine GoK.code ?_
 obtain rfl := Option.some.inj H
 exact GoC.retL (ds := [.v (.bool false)]) Try.results4 (ResL.cons (ResD.tmp rfl) (ResL.nil)) (Take.nil _) ⟨rfl, rfl⟩
 replace H := itb_t h6 H
 refine GoO.guardF rfl rfl rfl rfl ?_
 refine GoO.pure (ps_pickT rfl rfl rfl) ?_
 refine GoO.nil ?_
 refine GoK.code ?_
 refine GoC.condT rfl ?_
 refine GoC.seq ?_
 refine GoC.region ?_
 refine GoO.pure (ps_assign rfl rfl) ?_
 refine GoO.nil ?_
 refine GoK.code ?_
 obtain rfl := Option.some.inj H
 exact GoC.retL (ds := [.v (.bool false)]) Try.results4 (ResL.cons (ResD.tmp rfl) (ResL.nil)) (Take.nil _) ⟨rfl, rfl⟩
 replace H := itb_t h3 H
 refine GoO.guardF rfl rfl rfl rfl ?_
 refine GoO.pure (ps_pickT rfl rfl rfl) ?_
 refine GoO.pure (ps_move rfl rfl) ?_
 refine GoO.guardF rfl rfl rfl rfl ?_
 refine GoO.guardF rfl rfl rfl rfl ?_
 refine GoO.pure (ps_pickT rfl rfl rfl) ?_
 refine GoO.nil ?_
 refine GoK.code ?_
 refine GoC.condT rfl ?_
 refine GoC.seq ?_
 refine GoC.region ?_
 refine GoO.pure (ps_assign rfl rfl) ?_
 refine GoO.nil ?_
 refine GoK.code ?_
 obtain rfl := Option.some.inj H
 exact GoC.retL (ds := [.v (.bool false)]) Try.results4 (ResL.cons (ResD.tmp rfl) (ResL.nil)) (Take.nil _) ⟨rfl, rfl⟩

end Go.Proofs.Ytlpelkfcmeapiaa
