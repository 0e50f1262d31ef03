/- The functions slices.Clone.int, slices.Clone.intL, slices.Index.int, slices.Grow.Arc, slices.Concat.Arc, slices.Equal.Arc, slices.Clone.Arc, slices.Reverse.Arc, slices.Equal.int, slices.Reverse.int, told as plain functions, and that the code does as they say. -/
import Derived.Test.YtblhoelmodbifaaTys
import Derived.Test.YtblhoelmodbifaaDat
namespace Go.Proofs.Ytblhoelmodbifaa
open Go Go.Proofs.Ytblhoelmodbifaa.Sx
set_option linter.unusedVariables false
set_option linter.unusedSimpArgs false
def slices_Clone_int_F (s_ : (List Int)) : Option ((List Int)) :=
 ck (0 + s_.length ≤ 17592186044416) <|
 some (([] : List Int) ++ s_)
def slices_Clone_int_P (out : (List Int)) (d : D) (H : List HL) : Prop := ∃ β1 : BK, d = .own β1 1 0 out.length ∧ H = [.one β1 3 1 (row out)]
theorem slices_Clone_int_I (out : (List Int)) : IndepP (slices_Clone_int_P out) := IndepP.of (by rintro _ _ ⟨β1, rfl, rfl⟩; exact ⟨inferInstance, inferInstance⟩)
set_option maxRecDepth 100000 in
set_option maxHeartbeats 4000000 in
theorem slices_Clone_int_spec (s_ : (List Int)) {out : (List Int)} (H : slices_Clone_int_F s_ = some out) : Does Try.prog 18 [slD s_] [] (slices_Clone_int_P out) := by
 unfold slices_Clone_int_F at H
 refine Does.intro Try.func18 rfl Try.ntmps18 rfl fun w0 I0 => ?_
 refine GoC.seq ?_
 refine GoC.region ?_
 refine GoO.pure (ps_assign rfl rfl) ?_
 refine GoO.nil ?_
 refine GoK.code ?_
 refine GoC.seq ?_
 refine GoC.seq ?_
 refine GoC.region ?_
 refine GoO.pure (ps_move rfl rfl) ?_
 refine GoO.eff (ef_eqlNil rfl rfl rfl) (fun s2 hs2 => ?_)
 obtain ⟨bn1, hbn1, rfl⟩ := hs2
 refine GoO.nil ?_
 refine GoK.code ?_
 refine GoC.cond rfl (fun h2 => ?_) (fun h2 => ?_)
 have e0 := List.eq_nil_of_length_eq_zero (hbn1 h2); subst e0; replace H := ck_r H
 refine GoC.seq ?_
 refine GoC.region ?_
 refine GoO.pure (ps_assign rfl rfl) ?_
 refine GoO.nil ?_
 refine GoK.code ?_
 obtain rfl := Option.some.inj H
 refine GoC.le (le_row0 3 1 (row ([] : List Int)) rfl) ?_
 exact GoC.retL (ds := [.own ⟨0, 0, 0⟩ 1 0 0]) Try.results18 (ResL.cons (ResD.le (ResD.tmp rfl) (by exact DLe.nilOwn)) (ResL.nil)) (Take.cons _ _ _ _ _ Rem.p0 (Take.nil _)) ⟨⟨0, 0, 0⟩, rfl, rfl⟩
 refine GoC.skip ?_
 refine GoK.code ?_
 refine GoC.seq ?_
 refine GoC.region ?_
 refine GoO.effB (ef_buildSlice (row (([] : List Int) : List Int)) rfl (Parts.nil _) rfl rfl rfl rfl) (fun β3 => ?_)
 refine GoO.pure (ps_move rfl rfl) ?_
 have c5 := ck_l H; replace H := ck_r H
 refine GoO.effB (ef_append rfl rfl Rem.p0 Src.sl (cat_row (α := Int) (by first | rfl | omega | (simp only [subl_length, List.length_set, List.length_append, List.length_cons, List.length_nil, List.length_replicate, row_len] <;> first | rfl | omega)) (by first | rfl | omega | (simp only [subl_length, List.length_set, List.length_append, List.length_cons, List.length_nil, List.length_replicate, row_len] <;> first | rfl | omega)) (fun _ _ _ _ => rfl)) (by first | omega | (simp only [subl_length, List.length_set, List.length_append, List.length_cons, List.length_nil, List.length_replicate, row_len]; omega) | (simp only [subl_length, List.length_set, List.length_append, List.length_cons, List.length_nil, List.length_replicate, row_len]; done)) (app_le c5 rfl) rfl rfl rfl) (fun β4 => ?_)
 refine GoO.pure (ps_assign rfl rfl) ?_
 refine GoO.nil ?_
 refine GoK.code ?_
 obtain rfl := Option.some.inj H
 exact GoC.retL (ds := [.own β4 1 0 (([] : List Int) ++ s_).length]) Try.results18 (ResL.cons (ResD.le (ResD.tmp rfl) (by exact DLe.len (by first | rfl | omega | (simp only [row_len, List.length_append, List.length_cons, List.length_nil, List.length_nil] <;> first | rfl | omega)))) (ResL.nil)) (Take.cons _ _ _ _ _ Rem.p0 (Take.nil _)) ⟨β4, rfl, rfl⟩

def slices_Clone_intL_F (s_ : (List (List Int))) : Option ((List (List Int))) :=
 ck (0 + s_.length ≤ 5864062014805) <|
 some (([] : List (List Int)) ++ s_)
def slices_Clone_intL_P (out : (List (List Int))) (d : D) (H : List HL) : Prop := ∃ β1 : BK, d = .own β1 1 0 out.length ∧ H = [.one β1 26 1 (row out)]
set_option maxRecDepth 100000 in
set_option maxHeartbeats 4000000 in
theorem slices_Clone_intL_spec (s_ : (List (List Int))) {out : (List (List Int))} (H : slices_Clone_intL_F s_ = some out) : Does Try.prog 17 [slD s_] [] (slices_Clone_intL_P out) := by
 unfold slices_Clone_intL_F at H
 refine Does.intro Try.func17 rfl Try.ntmps17 rfl fun w0 I0 => ?_
 refine GoC.seq ?_
 refine GoC.region ?_
 refine GoO.pure (ps_assign rfl rfl) ?_
 refine GoO.nil ?_
 refine GoK.code ?_
 refine GoC.seq ?_
 refine GoC.seq ?_
 refine GoC.region ?_
 refine GoO.pure (ps_move rfl rfl) ?_
 refine GoO.eff (ef_eqlNil rfl rfl rfl) (fun s2 hs2 => ?_)
 obtain ⟨bn1, hbn1, rfl⟩ := hs2
 refine GoO.nil ?_
 refine GoK.code ?_
 refine GoC.cond rfl (fun h2 => ?_) (fun h2 => ?_)
 have e0 := List.eq_nil_of_length_eq_zero (hbn1 h2); subst e0; replace H := ck_r H
 refine GoC.seq ?_
 refine GoC.region ?_
 refine GoO.pure (ps_assign rfl rfl) ?_
 refine GoO.nil ?_
 refine GoK.code ?_
 obtain rfl := Option.some.inj H
 refine GoC.le (le_row0 26 1 (row ([] : List (List Int))) rfl) ?_
 exact GoC.retL (ds := [.own ⟨0, 0, 0⟩ 1 0 0]) Try.results17 (ResL.cons (ResD.le (ResD.tmp rfl) (by exact DLe.nilOwn)) (ResL.nil)) (Take.cons _ _ _ _ _ Rem.p0 (Take.nil _)) ⟨⟨0, 0, 0⟩, rfl, rfl⟩
 refine GoC.skip ?_
 refine GoK.code ?_
 refine GoC.seq ?_
 refine GoC.region ?_
 refine GoO.effB (ef_buildSlice (row (([] : List (List Int)) : List (List Int))) rfl (Parts.nil _) rfl rfl rfl rfl) (fun β3 => ?_)
 refine GoO.pure (ps_move rfl rfl) ?_
 have c5 := ck_l H; replace H := ck_r H
 refine GoO.effB (ef_append rfl rfl Rem.p0 Src.sl (cat_row (α := (List Int)) (by first | rfl | omega | (simp only [subl_length, List.length_set, List.length_append, List.length_cons, List.length_nil, List.length_replicate, row_len] <;> first | rfl | omega)) (by first | rfl | omega | (simp only [subl_length, List.length_set, List.length_append, List.length_cons, List.length_nil, List.length_replicate, row_len] <;> first | rfl | omega)) (fun _ _ _ _ => rfl)) (by first | omega | (simp only [subl_length, List.length_set, List.length_append, List.length_cons, List.length_nil, List.length_replicate, row_len]; omega) | (simp only [subl_length, List.length_set, List.length_append, List.length_cons, List.length_nil, List.length_replicate, row_len]; done)) (app_le c5 rfl) rfl rfl rfl) (fun β4 => ?_)
 refine GoO.pure (ps_assign rfl rfl) ?_
 refine GoO.nil ?_
 refine GoK.code ?_
 obtain rfl := Option.some.inj H
 exact GoC.retL (ds := [.own β4 1 0 (([] : List (List Int)) ++ s_).length]) Try.results17 (ResL.cons (ResD.le (ResD.tmp rfl) (by exact DLe.len (by first | rfl | omega | (simp only [row_len, List.length_append, List.length_cons, List.length_nil, List.length_nil] <;> first | rfl | omega)))) (ResL.nil)) (Take.cons _ _ _ _ _ Rem.p0 (Take.nil _)) ⟨β4, rfl, rfl⟩

def slices_Index_int_B1 (s_ : (List Int)) (v_ : Int) : Nat → Unit → Option (Ct (Unit) (Int)) := fun k5 _ =>
 if v_ = (s_.getD k5 (0 : Int)) then
  some (.ret ((k5 : Nat) : Int))
 else
  some (.go ())
def slices_Index_int_F (s_ : (List Int)) (v_ : Int) : Option (Int) :=
 (forC (slices_Index_int_B1 s_ v_) s_.length 0 ()).bind fun q => match q with
 | .go _ =>
  some (-1)
 | .ret x => some x
def slices_Index_int_P (out : Int) (d : D) (H : List HL) : Prop := d = .v (.int .i64 out) ∧ H = []
theorem slices_Index_int_I (out : Int) : IndepP (slices_Index_int_P out) := IndepP.of (by rintro _ _ ⟨rfl, rfl⟩; exact ⟨inferInstance, inferInstance⟩)
set_option maxRecDepth 100000 in
set_option maxHeartbeats 4000000 in
theorem slices_Index_int_spec (s_ : (List Int)) (v_ : Int) {out : Int} (H : slices_Index_int_F s_ v_ = some out) : Does Try.prog 45 [slD s_, .v (.int .i64 v_)] [] (slices_Index_int_P out) := by
 unfold slices_Index_int_F at H
 refine Does.intro Try.func45 rfl Try.ntmps45 rfl fun w0 I0 => ?_
 refine GoC.seq ?_
 refine GoC.region ?_
 refine GoO.pure (ps_assign rfl rfl) ?_
 refine GoO.nil ?_
 refine GoK.code ?_
 refine GoC.seq ?_
 refine GoC.seq ?_
 refine GoC.region ?_
 refine GoO.pure (ps_move rfl rfl) ?_
 refine GoO.pure (ps_len rfl (by constructor) rfl) ?_
 refine GoO.lenLe (n := s_.length) (x := .tmp 6) rfl (by constructor) sl_lenLe (fun ml1 => ?_)
 refine GoO.pure (ps_move rfl rfl) ?_
 refine GoO.nil ?_
 refine GoK.code ?_
 have hb := bind_l H; clear H
 obtain ⟨q4, hl8, HK2⟩ := hb
 refine GoC.blockJ [] [] (fun v h => q4 = .go () ∧ v = [] ∧ h = []) ?_ ?_
 refine GoC.loopJ [(0, _), (1, _), (7, _)] [] (fun m v h => ∃ (k5 : Nat), (k5 + m = s_.length ∧ forC (slices_Index_int_B1 s_ v_) m k5 () = some q4) ∧ v = [(8, .v (.int .i64 ((k5 : Nat) : Int)))] ∧ h = []) s_.length ⟨_, ⟨by omega, hl8⟩, rfl, rfl⟩ (EnvD.eq rfl (EnvD.eq rfl (EnvD.eq rfl (EnvD.eq rfl (EnvD.nil))))) (TkD.nil _) ?_
 rintro m6 v h ⟨k5, ⟨hkk5, hF3⟩, rfl, rfl⟩
 refine GoC.seq ?_
 refine GoC.region ?_
 refine GoO.pure (ps_lss rfl rfl rfl) ?_
 refine GoO.nil ?_
 refine GoK.code ?_
 refine GoC.seq ?_
 refine GoC.condD rfl (fun (hk5 : (k5 : Int) < ((s_.length : Nat) : Int)) => ?_) (fun (hk5 : ¬ (k5 : Int) < ((s_.length : Nat) : Int)) => ?_)
 obtain ⟨m6', rfl⟩ : ∃ x, m6 = x + 1 := ⟨m6 - 1, by omega⟩
 have hb := bind_l hF3; clear hF3
 obtain ⟨qrm6, H, hF3⟩ := hb
 have hnk5 : k5 < s_.length := by omega
 have hIk5 : InI ((k5 : Int) + 1) := inI_len hk5 ml1
 refine GoC.skip ?_
 refine GoK.code ?_
 refine GoC.seq ?_
 refine GoC.block ?_
 refine GoC.seq ?_
 refine GoC.region ?_
 refine GoO.pure (ps_move rfl rfl) ?_
 refine GoO.pure (ps_assign rfl rfl) ?_
 refine GoO.nil ?_
 refine GoK.code ?_
 refine GoC.seq ?_
 refine GoC.region ?_
 refine GoO.pure (ps_move rfl rfl) ?_
 refine GoO.pure (ps_move rfl rfl) ?_
 refine GoO.pure (ps_move rfl rfl) ?_
 refine GoO.pure (ps_indexAddrRN rfl rfl hnk5 rfl) ?_
 refine GoO.pure (ps_loadR rfl hnk5 rfl rfl) ?_
 refine GoO.pure (ps_eql rfl rfl rfl) ?_
 refine GoO.nil ?_
 refine GoK.code ?_
 refine GoC.condD rfl (fun h7 => ?_) (fun h7 => ?_)
 replace H := ite_t h7 H
 refine GoC.seq ?_
 refine GoC.region ?_
 refine GoO.pure (ps_move rfl rfl) ?_
 refine GoO.pure (ps_assign rfl rfl) ?_
 refine GoO.nil ?_
 refine GoK.code ?_
 obtain rfl := Option.some.inj H
 obtain rfl := Option.some.inj hF3
 obtain rfl := Option.some.inj HK2
 exact GoC.retL (ds := [.v (.int .i64 ((k5 : Nat) : Int))]) Try.results45 (ResL.cons (ResD.tmp rfl) (ResL.nil)) (Take.nil _) ⟨rfl, rfl⟩
 replace H := ite_f h7 H
 refine GoC.skip ?_
 refine GoK.blk ?_
 refine GoK.code ?_
 refine GoC.region ?_
 refine GoO.pure (ps_add rfl rfl rfl hIk5) ?_
 refine GoO.pure (ps_move rfl rfl) ?_
 refine GoO.nil ?_
 obtain rfl := Option.some.inj H
 exact GoK.againJ m6' (by omega) ⟨_, ⟨by omega, hF3⟩, rfl, rfl⟩ (EnvD.eq rfl (EnvD.eq rfl (EnvD.eq rfl (EnvD.eq rfl (EnvD.nil))))) (TkD.nil _)
 obtain rfl : m6 = 0 := by omega
 refine GoC.exit rfl ?_
 cases hF3
 exact GoK.meet ⟨rfl, rfl, rfl⟩ (EnvD.nil) (TkD.nil _)
 rintro v h ⟨rfl, rfl, rfl⟩
 have H := HK2; clear HK2
 refine GoK.code ?_
 refine GoC.seq ?_
 refine GoC.region ?_
 refine GoO.pure (ps_assign rfl rfl) ?_
 refine GoO.nil ?_
 refine GoK.code ?_
 obtain rfl := Option.some.inj H
 exact GoC.retL (ds := [.v (.int .i64 (-1))]) Try.results45 (ResL.cons (ResD.tmp rfl) (ResL.nil)) (Take.nil _) ⟨rfl, rfl⟩

def slices_Grow_Arc_F (n_ : Int) : Option ((List Arc)) :=
 ((
  if n_ < 0 then
   none
  else
   some ()) : Option (Unit)).bind fun () =>
 ck (InI (0 - 0)) <|
 ck (InI (n_ - (0 - 0))) <|
 if 0 < (n_ - (0 - 0)) then
  ck (1 ≤ (n_ - (0 - 0)) ∧ (n_ - (0 - 0)) ≤ 10000000000) <|
  some (subl (List.replicate ((n_ - (0 - 0)).toNat) El.d) 0 0)
 else
  some []
def slices_Grow_Arc_P (out : (List Arc)) (d : D) (H : List HL) : Prop := ∃ β1 : BK, d = .own β1 3 0 out.length ∧ H = [.one β1 43 3 (row out)]
theorem slices_Grow_Arc_I (out : (List Arc)) : IndepP (slices_Grow_Arc_P out) := IndepP.of (by rintro _ _ ⟨β1, rfl, rfl⟩; exact ⟨inferInstance, inferInstance⟩)
set_option maxRecDepth 100000 in
set_option maxHeartbeats 4000000 in
theorem slices_Grow_Arc_spec (n_ : Int) {out : (List Arc)} (H : slices_Grow_Arc_F n_ = some out) : Does Try.prog 60 [.v (.slice none 0 0), .v (.int .i64 n_)] [] (slices_Grow_Arc_P out) := by
 unfold slices_Grow_Arc_F at H
 refine Does.intro Try.func60 rfl Try.ntmps60 rfl fun w0 I0 => ?_
 refine GoC.seq ?_
 refine GoC.region ?_
 refine GoO.pure (ps_assign rfl rfl) ?_
 refine GoO.nil ?_
 refine GoK.code ?_
 have hb := bind_l H; clear H
 obtain ⟨⟨⟩, H, HK1⟩ := hb
 refine GoC.seqJ [(0, .v (.slice none 0 0)), (1, .v (.int .i64 n_))] [] (fun v h => v = [] ∧ h = []) ?_ ?_
 refine GoC.seq ?_
 refine GoC.region ?_
 refine GoO.pure (ps_move rfl rfl) ?_
 refine GoO.pure (ps_lss rfl rfl rfl) ?_
 refine GoO.nil ?_
 refine GoK.code ?_
 refine GoC.condD rfl (fun h3 => ?_) (fun h3 => ?_)
 replace H := ite_t h3 H
 cases H
 replace H := ite_f h3 H
 refine GoC.skip ?_
 cases H
 exact GoK.meet ⟨rfl, rfl⟩ (EnvD.eq rfl (EnvD.eq rfl (EnvD.nil))) (TkD.nil _)
 rintro v h ⟨rfl, rfl⟩
 have H := HK1; clear HK1
 refine GoC.seq ?_
 refine GoC.seq ?_
 refine GoC.region ?_
 refine GoO.pure (ps_move rfl rfl) ?_
 refine GoO.pure (ps_move rfl rfl) ?_
 refine GoO.pure (ps_capNil rfl rfl) ?_
 refine GoO.pure (ps_move rfl rfl) ?_
 refine GoO.pure (ps_len rfl (by constructor) rfl) ?_
 have c4 := ck_l H; replace H := ck_r H
 refine GoO.pure (ps_sub rfl rfl rfl c4) ?_
 have c5 := ck_l H; replace H := ck_r H
 refine GoO.pure (ps_sub rfl rfl rfl c5) ?_
 refine GoO.pure (ps_assign rfl rfl) ?_
 refine GoO.nil ?_
 refine GoK.code ?_
 refine GoC.seq ?_
 refine GoC.region ?_
 refine GoO.pure (ps_move rfl rfl) ?_
 refine GoO.pure (ps_gtr rfl rfl rfl) ?_
 refine GoO.nil ?_
 refine GoK.code ?_
 refine GoC.condD rfl (fun h6 => ?_) (fun h6 => ?_)
 replace H := ite_t h6 H
 refine GoC.region ?_
 refine GoO.pure (ps_move rfl rfl) ?_
 refine GoO.pure (ps_move rfl rfl) ?_
 refine GoO.pure (ps_capNil rfl rfl) ?_
 refine GoO.pure (ps_sliceNil rfl rfl rfl) ?_
 refine GoO.pure (ps_move rfl rfl) ?_
 have c8 := ck_l H; replace H := ck_r H
 refine GoO.effB (ef_appendZ rfl rfl c8 rfl rfl rfl) (fun β7 => ?_)
 refine GoO.le (Le.reH At.p0 (HLe.zeros (α := Arc) ⟨⟨⟨trivial, DLe.refl _⟩, DLe.refl _⟩, DLe.refl _⟩)) ?_
 refine GoO.pure (ps_move rfl rfl) ?_
 refine GoO.pure (ps_len rfl (by constructor) rfl) ?_
 refine GoO.pure (ps_slice rfl (Bd.no _) (Bd.nat _ _ 0 _ rfl) (Nat.zero_le _) (Nat.zero_le _) rfl) ?_
 refine GoO.le (Le.shift At.p0 (by first | omega | (simp only [subl_length, List.length_set, List.length_append, List.length_cons, List.length_nil, List.length_replicate, row_len]; omega))) ?_
 refine GoO.le (Le.reH At.p0 (HLe.part (xs := (List.replicate ((n_ - (0 - 0)).toNat) El.d)) (r := 0 + 0) (len := 0) (by first | omega | (simp only [subl_length, List.length_set, List.length_append, List.length_cons, List.length_nil, List.length_replicate, row_len]; omega)))) ?_
 generalize (⟨β7.b, β7.o + (0 + 0) * 3, β7.s - (0 + 0)⟩ : BK) = β9
 refine GoO.pure (ps_assign rfl rfl) ?_
 refine GoO.nil ?_
 refine GoK.code ?_
 refine GoC.seq ?_
 refine GoC.region ?_
 refine GoO.pure (ps_move rfl rfl) ?_
 refine GoO.pure (ps_assign rfl rfl) ?_
 refine GoO.nil ?_
 refine GoK.code ?_
 obtain rfl := Option.some.inj H
 exact GoC.retL (ds := [.own β9 3 0 (subl (List.replicate ((n_ - (0 - 0)).toNat) El.d) 0 0).length]) Try.results60 (ResL.cons (ResD.le (ResD.tmp rfl) (by exact DLe.len (by first | rfl | omega | (simp only [row_len, List.length_replicate, subl_length] <;> first | rfl | omega)))) (ResL.nil)) (Take.cons _ _ _ _ _ Rem.p0 (Take.nil _)) ⟨β9, rfl, rfl⟩
 replace H := ite_f h6 H
 refine GoC.skip ?_
 refine GoK.code ?_
 refine GoC.seq ?_
 refine GoC.region ?_
 refine GoO.pure (ps_move rfl rfl) ?_
 refine GoO.pure (ps_assign rfl rfl) ?_
 refine GoO.nil ?_
 refine GoK.code ?_
 obtain rfl := Option.some.inj H
 refine GoC.le (le_row0 43 3 (row ([] : List Arc)) rfl) ?_
 exact GoC.retL (ds := [.own ⟨0, 0, 0⟩ 3 0 0]) Try.results60 (ResL.cons (ResD.le (ResD.tmp rfl) (by exact DLe.nilOwn)) (ResL.nil)) (Take.cons _ _ _ _ _ Rem.p0 (Take.nil _)) ⟨⟨0, 0, 0⟩, rfl, rfl⟩

def slices_Concat_Arc_B1 (ss_ : (List (List Arc))) : Nat → Nat → Option (Nat) := fun k7 n2 =>
 ck (InI (((n2 : Nat) : Int) + (((ss_.getD k7 []).length : Nat) : Int))) <|
 if (((n2 + (ss_.getD k7 []).length) : Nat) : Int) < 0 then
  none
 else
  some (n2 + (ss_.getD k7 []).length)
def slices_Concat_Arc_B2 (ss_ : (List (List Arc))) : Nat → (List Arc) → Option ((List Arc)) := fun k22 l17 =>
 ck (l17.length + (ss_.getD k22 []).length ≤ 5864062014805) <|
 some (l17 ++ (ss_.getD k22 []))
def slices_Concat_Arc_F (ss_ : (List (List Arc))) : Option ((List Arc)) :=
 (forN (slices_Concat_Arc_B1 ss_) ss_.length 0 0).bind fun n6 =>
 (slices_Grow_Arc_F ((n6 : Nat) : Int)).bind fun r13 =>
 (forN (slices_Concat_Arc_B2 ss_) ss_.length 0 r13).bind fun l21 =>
 some l21
def slices_Concat_Arc_P (out : (List Arc)) (d : D) (H : List HL) : Prop := ∃ β1 : BK, d = .own β1 3 0 out.length ∧ H = [.one β1 43 3 (row out)]
theorem slices_Concat_Arc_I (out : (List Arc)) : IndepP (slices_Concat_Arc_P out) := IndepP.of (by rintro _ _ ⟨β1, rfl, rfl⟩; exact ⟨inferInstance, inferInstance⟩)
set_option maxRecDepth 100000 in
set_option maxHeartbeats 4000000 in
theorem slices_Concat_Arc_spec (ss_ : (List (List Arc))) {out : (List Arc)} (H : slices_Concat_Arc_F ss_ = some out) : Does Try.prog 48 [slD ss_] [] (slices_Concat_Arc_P out) := by
 unfold slices_Concat_Arc_F at H
 refine Does.intro Try.func48 rfl Try.ntmps48 rfl fun w0 I0 => ?_
 refine GoC.seq ?_
 refine GoC.region ?_
 refine GoO.pure (ps_assign rfl rfl) ?_
 refine GoO.nil ?_
 refine GoK.code ?_
 refine GoC.seq ?_
 refine GoC.region ?_
 refine GoO.pure (ps_assign rfl rfl) ?_
 refine GoO.nil ?_
 refine GoK.code ?_
 refine GoC.seq ?_
 refine GoC.seq ?_
 refine GoC.region ?_
 refine GoO.pure (ps_move rfl rfl) ?_
 refine GoO.pure (ps_len rfl (by constructor) rfl) ?_
 refine GoO.lenLe (n := ss_.length) (x := .tmp 9) rfl (by constructor) sl_lenLe (fun ml1 => ?_)
 refine GoO.pure (ps_move rfl rfl) ?_
 refine GoO.nil ?_
 refine GoK.code ?_
 have hb := bind_l H; clear H
 obtain ⟨n6, hl12, HK3⟩ := hb
 refine GoC.blockJ [(0, slD ss_)] [] (fun v h => v = [(3, .v (.int .i64 ((n6 : Nat) : Int)))] ∧ h = []) ?_ ?_
 refine GoC.loopJ [(0, _), (9, _), (10, _)] [] (fun m v h => ∃ (k7 : Nat) (n2 : Nat), (k7 + m = ss_.length ∧ forN (slices_Concat_Arc_B1 ss_) m k7 n2 = some n6) ∧ v = [(11, .v (.int .i64 ((k7 : Nat) : Int))), (3, .v (.int .i64 ((n2 : Nat) : Int)))] ∧ h = []) ss_.length ⟨_, _, ⟨by omega, hl12⟩, rfl, rfl⟩ (EnvD.eq rfl (EnvD.eq rfl (EnvD.eq rfl (EnvD.eq rfl (EnvD.eq rfl (EnvD.nil)))))) (TkD.nil _) ?_
 rintro m8 v h ⟨k7, n2, ⟨hkk7, hF4⟩, rfl, rfl⟩
 refine GoC.seq ?_
 refine GoC.region ?_
 refine GoO.pure (ps_lss rfl rfl rfl) ?_
 refine GoO.nil ?_
 refine GoK.code ?_
 refine GoC.seq ?_
 refine GoC.condD rfl (fun (hk7 : (k7 : Int) < ((ss_.length : Nat) : Int)) => ?_) (fun (hk7 : ¬ (k7 : Int) < ((ss_.length : Nat) : Int)) => ?_)
 obtain ⟨m8', rfl⟩ : ∃ x, m8 = x + 1 := ⟨m8 - 1, by omega⟩
 have hb := bind_l hF4; clear hF4
 obtain ⟨qrm8, H, hF4⟩ := hb
 have hnk7 : k7 < ss_.length := by omega
 have hIk7 : InI ((k7 : Int) + 1) := inI_len hk7 ml1
 refine GoC.skip ?_
 refine GoK.code ?_
 refine GoC.seq ?_
 refine GoC.block ?_
 refine GoC.seq ?_
 refine GoC.region ?_
 refine GoO.pure (ps_indexAddrRN rfl rfl hnk7 rfl) ?_
 refine GoO.pure (ps_loadR rfl hnk7 rfl rfl) ?_
 refine GoO.pure (ps_assign rfl rfl) ?_
 refine GoO.nil ?_
 refine GoK.code ?_
 refine GoC.seq ?_
 refine GoC.region ?_
 refine GoO.pure (ps_move rfl rfl) ?_
 refine GoO.pure (ps_move rfl rfl) ?_
 refine GoO.pure (ps_len rfl (by constructor) rfl) ?_
 refine GoO.lenLe (n := (ss_.getD k7 []).length) (x := .tmp 16) rfl (by constructor) sl_lenLe (fun ml9 => ?_)
 have c10 := ck_l H; replace H := ck_r H
 refine GoO.pure (ps_add rfl rfl rfl c10) ?_
 refine GoO.pure (ps_assign rfl rfl) ?_
 refine GoO.nil ?_
 refine GoK.code ?_
 refine GoC.seq ?_
 refine GoC.region ?_
 refine GoO.pure (ps_move rfl rfl) ?_
 refine GoO.pure (ps_lss rfl rfl rfl) ?_
 refine GoO.nil ?_
 refine GoK.code ?_
 refine GoC.condD rfl (fun h11 => ?_) (fun h11 => ?_)
 replace H := ite_t h11 H
 cases H
 replace H := ite_f h11 H
 refine GoC.skip ?_
 refine GoK.blk ?_
 refine GoK.code ?_
 refine GoC.region ?_
 refine GoO.pure (ps_add rfl rfl rfl hIk7) ?_
 refine GoO.pure (ps_move rfl rfl) ?_
 refine GoO.nil ?_
 obtain rfl := Option.some.inj H
 exact GoK.againJ m8' (by omega) ⟨_, _, ⟨by omega, hF4⟩, rfl, rfl⟩ (EnvD.eq rfl (EnvD.eq rfl (EnvD.eq rfl (EnvD.eq rfl (EnvD.eq rfl (EnvD.nil)))))) (TkD.nil _)
 obtain rfl : m8 = 0 := by omega
 refine GoC.exit rfl ?_
 cases hF4
 exact GoK.meet ⟨rfl, rfl⟩ (EnvD.eq rfl (EnvD.eq rfl (EnvD.nil))) (TkD.nil _)
 rintro v h ⟨rfl, rfl⟩
 have H := HK3; clear HK3
 refine GoK.code ?_
 refine GoC.seq ?_
 refine GoC.region ?_
 refine GoO.pure (ps_move rfl rfl) ?_
 have hb := bind_l H; clear H
 obtain ⟨r13, e15, H⟩ := hb
 refine GoO.effC (ef_call rfl (Take.nil _) (Take.nil _) (slices_Grow_Arc_spec ((n6 : Nat) : Int) e15) (LendL.cons (Lend.refl _ _) (LendL.cons (Lend.refl _ _) (LendL.nil))) rfl (slices_Grow_Arc_I (r13))) (fun rr HH hp => ?_)
 obtain ⟨β14, rfl, rfl⟩ := hp
 refine GoO.pure (ps_assign rfl rfl) ?_
 refine GoO.nil ?_
 refine GoK.code ?_
 refine GoC.seq ?_
 refine GoC.seq ?_
 refine GoC.region ?_
 refine GoO.pure (ps_move rfl rfl) ?_
 refine GoO.pure (ps_len rfl (by constructor) rfl) ?_
 refine GoO.pure (ps_move rfl rfl) ?_
 refine GoO.nil ?_
 refine GoK.code ?_
 have hb := bind_l H; clear H
 obtain ⟨l21, hl26, HK18⟩ := hb
 refine GoC.blockJ [] [] (fun v h => ∃ (β16 : BK), v = [(6, .own β16 3 0 l21.length)] ∧ h = [.one β16 43 3 (row l21)]) ?_ ?_
 refine GoC.loopJ [(25, _), (26, _)] [] (fun m v h => ∃ (k22 : Nat) (l17 : (List Arc)) (β16 : BK), (k22 + m = ss_.length ∧ forN (slices_Concat_Arc_B2 ss_) m k22 l17 = some l21) ∧ v = [(27, .v (.int .i64 ((k22 : Nat) : Int))), (6, .own β16 3 0 l17.length)] ∧ h = [.one β16 43 3 (row l17)]) ss_.length ⟨_, _, β14, ⟨by omega, hl26⟩, rfl, rfl⟩ (EnvD.eq rfl (EnvD.cons rfl (DLe.len (by first | rfl | omega | (simp only [row_len] <;> first | rfl | omega))) (EnvD.eq rfl (EnvD.eq rfl (EnvD.nil))))) (TkD.cons _ _ _ _ _ Rem.p0 (HLe.refl _) (TkD.nil _)) ?_
 rintro m23 v h ⟨k22, l17, β16, ⟨hkk22, hF19⟩, rfl, rfl⟩
 refine GoC.seq ?_
 refine GoC.region ?_
 refine GoO.pure (ps_lss rfl rfl rfl) ?_
 refine GoO.nil ?_
 refine GoK.code ?_
 refine GoC.seq ?_
 refine GoC.condD rfl (fun (hk22 : (k22 : Int) < ((ss_.length : Nat) : Int)) => ?_) (fun (hk22 : ¬ (k22 : Int) < ((ss_.length : Nat) : Int)) => ?_)
 obtain ⟨m23', rfl⟩ : ∃ x, m23 = x + 1 := ⟨m23 - 1, by omega⟩
 have hb := bind_l hF19; clear hF19
 obtain ⟨qrm23, H, hF19⟩ := hb
 have hnk22 : k22 < ss_.length := by omega
 have hIk22 : InI ((k22 : Int) + 1) := inI_len hk22 ml1
 refine GoC.skip ?_
 refine GoK.code ?_
 refine GoC.seq ?_
 refine GoC.block ?_
 refine GoC.seq ?_
 refine GoC.region ?_
 refine GoO.pure (ps_indexAddrRN rfl rfl hnk22 rfl) ?_
 refine GoO.pure (ps_loadR rfl hnk22 rfl rfl) ?_
 refine GoO.pure (ps_assign rfl rfl) ?_
 refine GoO.nil ?_
 refine GoK.code ?_
 refine GoC.region ?_
 refine GoO.pure (ps_move rfl rfl) ?_
 refine GoO.pure (ps_move rfl rfl) ?_
 have c25 := ck_l H; replace H := ck_r H
 refine GoO.effB (ef_append rfl rfl Rem.p0 Src.sl (cat_row (α := Arc) (by first | rfl | omega | (simp only [subl_length, List.length_set, List.length_append, List.length_cons, List.length_nil, List.length_replicate, row_len] <;> first | rfl | omega)) (by first | rfl | omega | (simp only [subl_length, List.length_set, List.length_append, List.length_cons, List.length_nil, List.length_replicate, row_len] <;> first | rfl | omega)) (fun _ _ _ _ => rfl)) (by first | omega | (simp only [subl_length, List.length_set, List.length_append, List.length_cons, List.length_nil, List.length_replicate, row_len]; omega) | (simp only [subl_length, List.length_set, List.length_append, List.length_cons, List.length_nil, List.length_replicate, row_len]; done)) (app_le c25 rfl) rfl rfl rfl) (fun β24 => ?_)
 refine GoO.pure (ps_assign rfl rfl) ?_
 refine GoO.nil ?_
 refine GoK.blk ?_
 refine GoK.code ?_
 refine GoC.region ?_
 refine GoO.pure (ps_add rfl rfl rfl hIk22) ?_
 refine GoO.pure (ps_move rfl rfl) ?_
 refine GoO.nil ?_
 obtain rfl := Option.some.inj H
 exact GoK.againJ m23' (by omega) ⟨_, _, β24, ⟨by omega, hF19⟩, rfl, rfl⟩ (EnvD.eq rfl (EnvD.cons rfl (DLe.len (by first | rfl | omega | (simp only [row_len, List.length_append, List.length_cons, List.length_nil, List.length_nil] <;> first | rfl | omega))) (EnvD.eq rfl (EnvD.eq rfl (EnvD.nil))))) (TkD.cons _ _ _ _ _ Rem.p0 (HLe.refl _) (TkD.nil _))
 obtain rfl : m23 = 0 := by omega
 refine GoC.exit rfl ?_
 cases hF19
 exact GoK.meet ⟨β16, rfl, rfl⟩ (EnvD.cons rfl (DLe.len (by first | rfl | omega | (simp only [row_len] <;> first | rfl | omega))) (EnvD.nil)) (TkD.cons _ _ _ _ _ Rem.p0 (HLe.refl _) (TkD.nil _))
 rintro v h ⟨β16, rfl, rfl⟩
 have H := HK18; clear HK18
 refine GoK.code ?_
 refine GoC.seq ?_
 refine GoC.region ?_
 refine GoO.pure (ps_move rfl rfl) ?_
 refine GoO.pure (ps_assign rfl rfl) ?_
 refine GoO.nil ?_
 refine GoK.code ?_
 obtain rfl := Option.some.inj H
 exact GoC.retL (ds := [.own β16 3 0 l21.length]) Try.results48 (ResL.cons (ResD.tmp rfl) (ResL.nil)) (Take.cons _ _ _ _ _ Rem.p0 (Take.nil _)) ⟨β16, rfl, rfl⟩

def slices_Equal_Arc_B1 (s1_ : (List Arc)) (s2_ : (List Arc)) : Nat → Unit → Option (Ct (Unit) (Bool)) := fun k7 _ =>
 ck (k7 < s2_.length) <|
 if ¬ (((s1_.getD k7 El.d).f) = ((s2_.getD k7 El.d).f) ∧ ((s1_.getD k7 El.d).t) = ((s2_.getD k7 El.d).t) ∧ ((s1_.getD k7 El.d).c) = ((s2_.getD k7 El.d).c)) then
  some (.ret false)
 else
  some (.go ())
def slices_Equal_Arc_F (s1_ : (List Arc)) (s2_ : (List Arc)) : Option (Bool) :=
 if ((s1_.length : Nat) : Int) ≠ ((s2_.length : Nat) : Int) then
  some false
 else
  (forC (slices_Equal_Arc_B1 s1_ s2_) s1_.length 0 ()).bind fun q => match q with
  | .go _ =>
   some true
  | .ret x => some x
def slices_Equal_Arc_P (out : Bool) (d : D) (H : List HL) : Prop := d = .v (.bool out) ∧ H = []
theorem slices_Equal_Arc_I (out : Bool) : IndepP (slices_Equal_Arc_P out) := IndepP.of (by rintro _ _ ⟨rfl, rfl⟩; exact ⟨inferInstance, inferInstance⟩)
set_option maxRecDepth 100000 in
set_option maxHeartbeats 4000000 in
theorem slices_Equal_Arc_spec (s1_ : (List Arc)) (s2_ : (List Arc)) {out : Bool} (H : slices_Equal_Arc_F s1_ s2_ = some out) : Does Try.prog 26 [slD s1_, slD s2_] [] (slices_Equal_Arc_P out) := by
 unfold slices_Equal_Arc_F at H
 refine Does.intro Try.func26 rfl Try.ntmps26 rfl fun w0 I0 => ?_
 refine GoC.seq ?_
 refine GoC.region ?_
 refine GoO.pure (ps_assign rfl rfl) ?_
 refine GoO.nil ?_
 refine GoK.code ?_
 refine GoC.seq ?_
 refine GoC.seq ?_
 refine GoC.region ?_
 refine GoO.pure (ps_move rfl rfl) ?_
 refine GoO.pure (ps_len rfl (by constructor) rfl) ?_
 refine GoO.lenLe (n := s1_.length) (x := .tmp 6) rfl (by constructor) sl_lenLe (fun ml1 => ?_)
 refine GoO.pure (ps_move rfl rfl) ?_
 refine GoO.pure (ps_len rfl (by constructor) rfl) ?_
 refine GoO.lenLe (n := s2_.length) (x := .tmp 8) rfl (by constructor) sl_lenLe (fun ml2 => ?_)
 refine GoO.pure (ps_neq rfl rfl rfl) ?_
 refine GoO.nil ?_
 refine GoK.code ?_
 refine GoC.condD rfl (fun h3 => ?_) (fun h3 => ?_)
 replace H := ite_t h3 H
 refine GoC.seq ?_
 refine GoC.region ?_
 refine GoO.pure (ps_assign rfl rfl) ?_
 refine GoO.nil ?_
 refine GoK.code ?_
 obtain rfl := Option.some.inj H
 exact GoC.retL (ds := [.v (.bool false)]) Try.results26 (ResL.cons (ResD.tmp rfl) (ResL.nil)) (Take.nil _) ⟨rfl, rfl⟩
 replace H := ite_f h3 H
 refine GoC.skip ?_
 refine GoK.code ?_
 refine GoC.seq ?_
 refine GoC.seq ?_
 refine GoC.region ?_
 refine GoO.pure (ps_move rfl rfl) ?_
 refine GoO.pure (ps_len rfl (by constructor) rfl) ?_
 refine GoO.pure (ps_move rfl rfl) ?_
 refine GoO.nil ?_
 refine GoK.code ?_
 have hb := bind_l H; clear H
 obtain ⟨q6, hl11, HK4⟩ := hb
 refine GoC.blockJ [] [] (fun v h => q6 = .go () ∧ v = [] ∧ h = []) ?_ ?_
 refine GoC.loopJ [(0, _), (1, _), (12, _)] [] (fun m v h => ∃ (k7 : Nat), (k7 + m = s1_.length ∧ forC (slices_Equal_Arc_B1 s1_ s2_) m k7 () = some q6) ∧ v = [(13, .v (.int .i64 ((k7 : Nat) : Int)))] ∧ h = []) s1_.length ⟨_, ⟨by omega, hl11⟩, rfl, rfl⟩ (EnvD.eq rfl (EnvD.eq rfl (EnvD.eq rfl (EnvD.eq rfl (EnvD.nil))))) (TkD.nil _) ?_
 rintro m8 v h ⟨k7, ⟨hkk7, hF5⟩, rfl, rfl⟩
 refine GoC.seq ?_
 refine GoC.region ?_
 refine GoO.pure (ps_lss rfl rfl rfl) ?_
 refine GoO.nil ?_
 refine GoK.code ?_
 refine GoC.seq ?_
 refine GoC.condD rfl (fun (hk7 : (k7 : Int) < ((s1_.length : Nat) : Int)) => ?_) (fun (hk7 : ¬ (k7 : Int) < ((s1_.length : Nat) : Int)) => ?_)
 obtain ⟨m8', rfl⟩ : ∃ x, m8 = x + 1 := ⟨m8 - 1, by omega⟩
 have hb := bind_l hF5; clear hF5
 obtain ⟨qrm8, H, hF5⟩ := hb
 have hnk7 : k7 < s1_.length := by omega
 have hIk7 : InI ((k7 : Int) + 1) := inI_len hk7 ml1
 refine GoC.skip ?_
 refine GoK.code ?_
 refine GoC.seq ?_
 refine GoC.block ?_
 refine GoC.seq ?_
 refine GoC.region ?_
 refine GoO.pure (ps_move rfl rfl) ?_
 refine GoO.pure (ps_assign rfl rfl) ?_
 refine GoO.nil ?_
 refine GoK.code ?_
 refine GoC.seq ?_
 refine GoC.drawA (.q 0 (.q 1 (.q 2 (.q 3 (.q 4 (.q 5 (.q 6 (.q 7 (.q 8 (.done)))))))))) follows (by kernel_rfl) ?_
 refine GoP.qN rfl (ps_move rfl rfl) ?_
 refine GoP.qN rfl (ps_move rfl rfl) ?_
 refine GoP.qN rfl (ps_indexAddrRN rfl rfl hnk7 rfl) ?_
 refine GoP.qN rfl (ps_loadAgR rfl hnk7 rfl rfl) ?_
 refine GoP.qN rfl (ps_move rfl rfl) ?_
 refine GoP.qN rfl (ps_move rfl rfl) ?_
 have c9 := ck_l H; replace H := ck_r H
 refine GoP.qN rfl (ps_indexAddrRN rfl rfl c9 rfl) ?_
 refine GoP.qN rfl (ps_loadAgR rfl c9 rfl rfl) ?_
 refine GoP.qN rfl (ps_neqS rfl rfl rfl rfl rfl rfl rfl rfl rfl) ?_
 refine GoP.done ?_
 refine GoK.code ?_
 refine GoC.condD rfl (fun h10 => ?_) (fun h10 => ?_)
 replace H := ite_t h10 H
 refine GoC.seq ?_
 refine GoC.region ?_
 refine GoO.pure (ps_assign rfl rfl) ?_
 refine GoO.nil ?_
 refine GoK.code ?_
 obtain rfl := Option.some.inj H
 obtain rfl := Option.some.inj hF5
 obtain rfl := Option.some.inj HK4
 exact GoC.retL (ds := [.v (.bool false)]) Try.results26 (ResL.cons (ResD.tmp rfl) (ResL.nil)) (Take.nil _) ⟨rfl, rfl⟩
 replace H := ite_f h10 H
 refine GoC.skip ?_
 refine GoK.blk ?_
 refine GoK.code ?_
 refine GoC.region ?_
 refine GoO.pure (ps_add rfl rfl rfl hIk7) ?_
 refine GoO.pure (ps_move rfl rfl) ?_
 refine GoO.nil ?_
 obtain rfl := Option.some.inj H
 exact GoK.againJ m8' (by omega) ⟨_, ⟨by omega, hF5⟩, rfl, rfl⟩ (EnvD.eq rfl (EnvD.eq rfl (EnvD.eq rfl (EnvD.eq rfl (EnvD.nil))))) (TkD.nil _)
 obtain rfl : m8 = 0 := by omega
 refine GoC.exit rfl ?_
 cases hF5
 exact GoK.meet ⟨rfl, rfl, rfl⟩ (EnvD.nil) (TkD.nil _)
 rintro v h ⟨rfl, rfl, rfl⟩
 have H := HK4; clear HK4
 refine GoK.code ?_
 refine GoC.seq ?_
 refine GoC.region ?_
 refine GoO.pure (ps_assign rfl rfl) ?_
 refine GoO.nil ?_
 refine GoK.code ?_
 obtain rfl := Option.some.inj H
 exact GoC.retL (ds := [.v (.bool true)]) Try.results26 (ResL.cons (ResD.tmp rfl) (ResL.nil)) (Take.nil _) ⟨rfl, rfl⟩

def slices_Clone_Arc_F (s_ : (List Arc)) : Option ((List Arc)) :=
 ck (0 + s_.length ≤ 5864062014805) <|
 some (([] : List Arc) ++ s_)
def slices_Clone_Arc_P (out : (List Arc)) (d : D) (H : List HL) : Prop := ∃ β1 : BK, d = .own β1 3 0 out.length ∧ H = [.one β1 43 3 (row out)]
theorem slices_Clone_Arc_I (out : (List Arc)) : IndepP (slices_Clone_Arc_P out) := IndepP.of (by rintro _ _ ⟨β1, rfl, rfl⟩; exact ⟨inferInstance, inferInstance⟩)
set_option maxRecDepth 100000 in
set_option maxHeartbeats 4000000 in
theorem slices_Clone_Arc_spec (s_ : (List Arc)) {out : (List Arc)} (H : slices_Clone_Arc_F s_ = some out) : Does Try.prog 35 [slD s_] [] (slices_Clone_Arc_P out) := by
 unfold slices_Clone_Arc_F at H
 refine Does.intro Try.func35 rfl Try.ntmps35 rfl fun w0 I0 => ?_
 refine GoC.seq ?_
 refine GoC.region ?_
 refine GoO.pure (ps_assign rfl rfl) ?_
 refine GoO.nil ?_
 refine GoK.code ?_
 refine GoC.seq ?_
 refine GoC.seq ?_
 refine GoC.region ?_
 refine GoO.pure (ps_move rfl rfl) ?_
 refine GoO.eff (ef_eqlNil rfl rfl rfl) (fun s2 hs2 => ?_)
 obtain ⟨bn1, hbn1, rfl⟩ := hs2
 refine GoO.nil ?_
 refine GoK.code ?_
 refine GoC.cond rfl (fun h2 => ?_) (fun h2 => ?_)
 have e0 := List.eq_nil_of_length_eq_zero (hbn1 h2); subst e0; replace H := ck_r H
 refine GoC.seq ?_
 refine GoC.region ?_
 refine GoO.pure (ps_assign rfl rfl) ?_
 refine GoO.nil ?_
 refine GoK.code ?_
 obtain rfl := Option.some.inj H
 refine GoC.le (le_row0 43 3 (row ([] : List Arc)) rfl) ?_
 exact GoC.retL (ds := [.own ⟨0, 0, 0⟩ 3 0 0]) Try.results35 (ResL.cons (ResD.le (ResD.tmp rfl) (by exact DLe.nilOwn)) (ResL.nil)) (Take.cons _ _ _ _ _ Rem.p0 (Take.nil _)) ⟨⟨0, 0, 0⟩, rfl, rfl⟩
 refine GoC.skip ?_
 refine GoK.code ?_
 refine GoC.seq ?_
 refine GoC.region ?_
 refine GoO.effB (ef_buildSlice (row (([] : List Arc) : List Arc)) rfl (Parts.nil _) rfl rfl rfl rfl) (fun β3 => ?_)
 refine GoO.pure (ps_move rfl rfl) ?_
 have c5 := ck_l H; replace H := ck_r H
 refine GoO.effB (ef_append rfl rfl Rem.p0 Src.sl (cat_row (α := Arc) (by first | rfl | omega | (simp only [subl_length, List.length_set, List.length_append, List.length_cons, List.length_nil, List.length_replicate, row_len] <;> first | rfl | omega)) (by first | rfl | omega | (simp only [subl_length, List.length_set, List.length_append, List.length_cons, List.length_nil, List.length_replicate, row_len] <;> first | rfl | omega)) (fun _ _ _ _ => rfl)) (by first | omega | (simp only [subl_length, List.length_set, List.length_append, List.length_cons, List.length_nil, List.length_replicate, row_len]; omega) | (simp only [subl_length, List.length_set, List.length_append, List.length_cons, List.length_nil, List.length_replicate, row_len]; done)) (app_le c5 rfl) rfl rfl rfl) (fun β4 => ?_)
 refine GoO.pure (ps_assign rfl rfl) ?_
 refine GoO.nil ?_
 refine GoK.code ?_
 obtain rfl := Option.some.inj H
 exact GoC.retL (ds := [.own β4 3 0 (([] : List Arc) ++ s_).length]) Try.results35 (ResL.cons (ResD.le (ResD.tmp rfl) (by exact DLe.len (by first | rfl | omega | (simp only [row_len, List.length_append, List.length_cons, List.length_nil, List.length_nil] <;> first | rfl | omega)))) (ResL.nil)) (Take.cons _ _ _ _ _ Rem.p0 (Take.nil _)) ⟨β4, rfl, rfl⟩

def slices_Reverse_Arc_B1 : ((List Arc) × Nat × Int) → Option (Ct ((List Arc) × Nat × Int) ((List Arc))) := fun (l3, n4, x5) =>
 if ((n4 : Nat) : Int) < x5 then
  ck (0 ≤ x5 ∧ x5 < ((l3.length : Nat) : Int)) <|
  ck (n4 < l3.length) <|
  ck (InI (((n4 : Nat) : Int) + 1)) <|
  ck (InI (x5 - 1)) <|
  some (.go (((l3.set n4 (l3.getD x5.toNat El.d)).set x5.toNat (l3.getD n4 El.d)), (n4 + 1), (x5 - 1)))
 else
  some (.brk (l3, n4, x5))
def slices_Reverse_Arc_F (p0 : (List Arc)) : Option ((List Arc)) :=
 ck (InI (((p0.length : Nat) : Int) - 1)) <|
 (loopC (slices_Reverse_Arc_B1) 1000000 (p0, 0, (((p0.length : Nat) : Int) - 1))).bind fun q => match q with
 | .go (l9, n10, x11) =>
  some l9
 | .ret x => some x
def slices_Reverse_Arc_P (out : (List Arc)) (βp0 : BK) (d : D) (H : List HL) : Prop := d = .tp 0 (nth []) ∧ H = [.one βp0 43 3 (row out)]
theorem slices_Reverse_Arc_I (out : (List Arc)) (βp0 : BK) : IndepP (slices_Reverse_Arc_P out βp0) := IndepP.of (by rintro _ _ ⟨rfl, rfl⟩; exact ⟨inferInstance, inferInstance⟩)
set_option maxRecDepth 100000 in
set_option maxHeartbeats 4000000 in
theorem slices_Reverse_Arc_spec (p0 : (List Arc)) (βp0 : BK) {out : (List Arc)} (H : slices_Reverse_Arc_F p0 = some out) : Does Try.prog 29 [.own βp0 3 0 p0.length] [.one βp0 43 3 (row p0)] (slices_Reverse_Arc_P out βp0) := by
 unfold slices_Reverse_Arc_F at H
 refine Does.intro Try.func29 rfl Try.ntmps29 rfl fun w0 I0 => ?_
 refine GoC.seq ?_
 refine GoC.region ?_
 refine GoO.pure (ps_move rfl rfl) ?_
 refine GoO.pure (ps_len rfl (by constructor) rfl) ?_
 refine GoO.lenLe (n := p0.length) (x := .tmp 4) rfl (by constructor) own_lenLe (fun ml1 => ?_)
 have c2 := ck_l H; replace H := ck_r H
 refine GoO.pure (ps_sub rfl rfl rfl c2) ?_
 refine GoO.pure (ps_assign rfl rfl) ?_
 refine GoO.pure (ps_assign rfl rfl) ?_
 refine GoO.nil ?_
 refine GoK.code ?_
 have hb := bind_l H; clear H
 obtain ⟨q8, hl18, HK6⟩ := hb
 refine GoC.blockJ [] [] (fun v h => ∃ (l9 : (List Arc)) (n10 : Nat) (x11 : Int), q8 = .go (l9, n10, x11) ∧ v = [] ∧ h = [.one βp0 43 3 (row l9)]) ?_ ?_
 refine GoC.loopJ [] [] (fun m v h => ∃ (l3 : (List Arc)) (n4 : Nat) (x5 : Int), loopC (slices_Reverse_Arc_B1) m (l3, n4, x5) = some q8 ∧ v = [(0, .own βp0 3 0 l3.length), (2, .v (.int .i64 ((n4 : Nat) : Int))), (3, .v (.int .i64 x5))] ∧ h = [.one βp0 43 3 (row l3)]) 1000000 ⟨_, _, _, hl18, rfl, rfl⟩ (EnvD.cons rfl (DLe.len (by first | rfl | omega | (simp only [row_len] <;> first | rfl | omega))) (EnvD.eq rfl (EnvD.eq rfl (EnvD.nil)))) (TkD.cons _ _ _ _ _ Rem.p0 (HLe.refl _) (TkD.nil _)) ?_
 rintro m12 v h ⟨l3, n4, x5, hF7, rfl, rfl⟩
 obtain ⟨m12', rfl⟩ | rfl : (∃ x, m12 = x + 1) ∨ m12 = 0 := by cases m12 <;> simp
 case inr => cases hF7
 have hb := bind_l hF7; clear hF7
 obtain ⟨qrm12, H, hF7⟩ := hb
 refine GoC.seq ?_
 refine GoC.seq ?_
 refine GoC.region ?_
 refine GoO.pure (ps_move rfl rfl) ?_
 refine GoO.pure (ps_move rfl rfl) ?_
 refine GoO.pure (ps_lss rfl rfl rfl) ?_
 refine GoO.nil ?_
 refine GoK.code ?_
 refine GoC.condD rfl (fun h13 => ?_) (fun h13 => ?_)
 replace H := ite_t h13 H
 refine GoC.skip ?_
 refine GoK.code ?_
 refine GoC.seq ?_
 refine GoC.block ?_
 refine GoC.drawP (.q 0 (.q 1 (.q 2 (.q 3 (.q 4 (.q 5 (.q 6 (.q 8 (.q 9 (.q 10 (.two 7 11 (.one 11 (.q 12 (.one 13 (.q 14 (.one 15 (.done)))))) (.one 7 (.q 12 (.one 13 (.q 14 (.one 15 (.done))))))))))))))))) [] follows (by kernel_rfl) (Take.nil _) ?_
 refine GoP.qN rfl (ps_move rfl rfl) ?_
 refine GoP.qN rfl (ps_move rfl rfl) ?_
 refine GoP.qN rfl (ps_move rfl rfl) ?_
 refine GoP.qN rfl (ps_move rfl rfl) ?_
 refine GoP.qN rfl (ps_move rfl rfl) ?_
 refine GoP.qN rfl (ps_move rfl rfl) ?_
 have c14 := ck_l H; replace H := ck_r H
 refine GoP.qN rfl (ps_indexAddr0 rfl rfl c14 rfl) ?_
 refine GoP.qN rfl (ps_move rfl rfl) ?_
 refine GoP.qN rfl (ps_move rfl rfl) ?_
 have c15 := ck_l H; replace H := ck_r H
 refine GoP.qN rfl (ps_indexAddr0N rfl rfl c15 rfl) ?_
 apply GoP.fork0
 exact rfl
 exact rfl
 exact trivial
 exact trivial
 exact Eff.pure (H1 := [.one βp0 43 3 (row l3)]) (ps_loadAg rfl At.p0 At.p0 (idx_lt c14) rfl rfl)
 exact Eff.pure (H1 := [.one βp0 43 3 (row l3)]) (ps_loadAg rfl At.p0 At.p0 c15 rfl rfl)
 exact (Take.nil _)
 exact (Take.nil _)
 intro hQ
 rintro _ rfl
 refine GoP.oneN rfl (ps_loadAg rfl At.p0 At.p0 c15 rfl rfl) (Take.nil _) ?_
 refine GoP.qN rfl (ps_indexAddr0N rfl rfl c15 rfl) ?_
 refine GoP.one1 rfl trivial (ef_storeAg rfl rfl At.p0 (upd_rowN (v := (l3.getD x5.toNat El.d)) ⟨⟨⟨trivial, rfl⟩, rfl⟩, rfl⟩) c15 rfl) (Take.cons _ _ _ _ _ Rem.p0 (Take.nil _)) ?_
 refine GoP.qN rfl (ps_indexAddr0 rfl rfl c14 rfl) ?_
 refine GoP.one1 rfl trivial (ef_storeAg rfl rfl At.p0 (upd_rowN (v := (l3.getD n4 El.d)) ⟨⟨⟨trivial, rfl⟩, rfl⟩, rfl⟩) (lt_len (idx_lt c14) (by first | rfl | omega | (simp only [row_len, List.length_set] <;> first | rfl | omega))) rfl) (Take.cons _ _ _ _ _ Rem.p0 (Take.nil _)) ?_
 exact GoP.done (hQ)
 intro hQ
 rintro _ rfl
 refine GoP.oneN rfl (ps_loadAg rfl At.p0 At.p0 (idx_lt c14) rfl rfl) (Take.nil _) ?_
 refine GoP.qN rfl (ps_indexAddr0N rfl rfl c15 rfl) ?_
 refine GoP.one1 rfl trivial (ef_storeAg rfl rfl At.p0 (upd_rowN (v := (l3.getD x5.toNat El.d)) ⟨⟨⟨trivial, rfl⟩, rfl⟩, rfl⟩) c15 rfl) (Take.cons _ _ _ _ _ Rem.p0 (Take.nil _)) ?_
 refine GoP.qN rfl (ps_indexAddr0 rfl rfl c14 rfl) ?_
 refine GoP.one1 rfl trivial (ef_storeAg rfl rfl At.p0 (upd_rowN (v := (l3.getD n4 El.d)) ⟨⟨⟨trivial, rfl⟩, rfl⟩, rfl⟩) (lt_len (idx_lt c14) (by first | rfl | omega | (simp only [row_len, List.length_set] <;> first | rfl | omega))) rfl) (Take.cons _ _ _ _ _ Rem.p0 (Take.nil _)) ?_
 refine GoP.done (GoK.le ?_ (hQ))
 refine Le.ofDW ?_ (TkD.cons _ _ _ _ _ Rem.p0 (HLe.refl _) (TkD.nil _))
 repeat (first | exact EnvLeW.nil | refine EnvLeW.cons rfl ?_ | refine EnvLeW.skip rfl ?_)
 refine GoK.blk ?_
 refine GoK.code ?_
 refine GoC.region ?_
 refine GoO.pure (ps_move rfl rfl) ?_
 have c16 := ck_l H; replace H := ck_r H
 refine GoO.pure (ps_add rfl rfl rfl c16) ?_
 refine GoO.pure (ps_move rfl rfl) ?_
 have c17 := ck_l H; replace H := ck_r H
 refine GoO.pure (ps_sub rfl rfl rfl c17) ?_
 refine GoO.pure (ps_assign rfl rfl) ?_
 refine GoO.pure (ps_assign rfl rfl) ?_
 refine GoO.nil ?_
 obtain rfl := Option.some.inj H
 exact GoK.againJ m12' (by omega) ⟨_, _, _, hF7, rfl, rfl⟩ (EnvD.cons rfl (DLe.len (by first | rfl | omega | (simp only [row_len, List.length_set] <;> first | rfl | omega))) (EnvD.eq rfl (EnvD.eq rfl (EnvD.nil)))) (TkD.cons _ _ _ _ _ Rem.p0 (HLe.refl _) (TkD.nil _))
 replace H := ite_f h13 H
 refine GoC.exit rfl ?_
 obtain rfl := Option.some.inj H
 obtain rfl := Option.some.inj hF7
 exact GoK.meet ⟨_, _, _, rfl, rfl, rfl⟩ (EnvD.nil) (TkD.cons _ _ _ _ _ Rem.p0 (HLe.refl _) (TkD.nil _))
 rintro v h ⟨l9, n10, x11, rfl, rfl, rfl⟩
 have H := HK6; clear HK6
 obtain rfl := Option.some.inj H
 exact GoK.retL (ds := []) Try.results29 (ResL.nil) (Take.cons _ _ _ _ _ Rem.p0 (Take.nil _)) ⟨rfl, rfl⟩

def slices_Equal_int_B1 (s1_ : (List Int)) (s2_ : (List Int)) : Nat → Unit → Option (Ct (Unit) (Bool)) := fun k7 _ =>
 ck (k7 < s2_.length) <|
 if (s1_.getD k7 (0 : Int)) ≠ (s2_.getD k7 (0 : Int)) then
  some (.ret false)
 else
  some (.go ())
def slices_Equal_int_F (s1_ : (List Int)) (s2_ : (List Int)) : Option (Bool) :=
 if ((s1_.length : Nat) : Int) ≠ ((s2_.length : Nat) : Int) then
  some false
 else
  (forC (slices_Equal_int_B1 s1_ s2_) s1_.length 0 ()).bind fun q => match q with
  | .go _ =>
   some true
  | .ret x => some x
def slices_Equal_int_P (out : Bool) (d : D) (H : List HL) : Prop := d = .v (.bool out) ∧ H = []
theorem slices_Equal_int_I (out : Bool) : IndepP (slices_Equal_int_P out) := IndepP.of (by rintro _ _ ⟨rfl, rfl⟩; exact ⟨inferInstance, inferInstance⟩)
set_option maxRecDepth 100000 in
set_option maxHeartbeats 4000000 in
theorem slices_Equal_int_spec (s1_ : (List Int)) (s2_ : (List Int)) {out : Bool} (H : slices_Equal_int_F s1_ s2_ = some out) : Does Try.prog 31 [slD s1_, slD s2_] [] (slices_Equal_int_P out) := by
 unfold slices_Equal_int_F at H
 refine Does.intro Try.func31 rfl Try.ntmps31 rfl fun w0 I0 => ?_
 refine GoC.seq ?_
 refine GoC.region ?_
 refine GoO.pure (ps_assign rfl rfl) ?_
 refine GoO.nil ?_
 refine GoK.code ?_
 refine GoC.seq ?_
 refine GoC.seq ?_
 refine GoC.region ?_
 refine GoO.pure (ps_move rfl rfl) ?_
 refine GoO.pure (ps_len rfl (by constructor) rfl) ?_
 refine GoO.lenLe (n := s1_.length) (x := .tmp 6) rfl (by constructor) sl_lenLe (fun ml1 => ?_)
 refine GoO.pure (ps_move rfl rfl) ?_
 refine GoO.pure (ps_len rfl (by constructor) rfl) ?_
 refine GoO.lenLe (n := s2_.length) (x := .tmp 8) rfl (by constructor) sl_lenLe (fun ml2 => ?_)
 refine GoO.pure (ps_neq rfl rfl rfl) ?_
 refine GoO.nil ?_
 refine GoK.code ?_
 refine GoC.condD rfl (fun h3 => ?_) (fun h3 => ?_)
 replace H := ite_t h3 H
 refine GoC.seq ?_
 refine GoC.region ?_
 refine GoO.pure (ps_assign rfl rfl) ?_
 refine GoO.nil ?_
 refine GoK.code ?_
 obtain rfl := Option.some.inj H
 exact GoC.retL (ds := [.v (.bool false)]) Try.results31 (ResL.cons (ResD.tmp rfl) (ResL.nil)) (Take.nil _) ⟨rfl, rfl⟩
 replace H := ite_f h3 H
 refine GoC.skip ?_
 refine GoK.code ?_
 refine GoC.seq ?_
 refine GoC.seq ?_
 refine GoC.region ?_
 refine GoO.pure (ps_move rfl rfl) ?_
 refine GoO.pure (ps_len rfl (by constructor) rfl) ?_
 refine GoO.pure (ps_move rfl rfl) ?_
 refine GoO.nil ?_
 refine GoK.code ?_
 have hb := bind_l H; clear H
 obtain ⟨q6, hl11, HK4⟩ := hb
 refine GoC.blockJ [] [] (fun v h => q6 = .go () ∧ v = [] ∧ h = []) ?_ ?_
 refine GoC.loopJ [(0, _), (1, _), (12, _)] [] (fun m v h => ∃ (k7 : Nat), (k7 + m = s1_.length ∧ forC (slices_Equal_int_B1 s1_ s2_) m k7 () = some q6) ∧ v = [(13, .v (.int .i64 ((k7 : Nat) : Int)))] ∧ h = []) s1_.length ⟨_, ⟨by omega, hl11⟩, rfl, rfl⟩ (EnvD.eq rfl (EnvD.eq rfl (EnvD.eq rfl (EnvD.eq rfl (EnvD.nil))))) (TkD.nil _) ?_
 rintro m8 v h ⟨k7, ⟨hkk7, hF5⟩, rfl, rfl⟩
 refine GoC.seq ?_
 refine GoC.region ?_
 refine GoO.pure (ps_lss rfl rfl rfl) ?_
 refine GoO.nil ?_
 refine GoK.code ?_
 refine GoC.seq ?_
 refine GoC.condD rfl (fun (hk7 : (k7 : Int) < ((s1_.length : Nat) : Int)) => ?_) (fun (hk7 : ¬ (k7 : Int) < ((s1_.length : Nat) : Int)) => ?_)
 obtain ⟨m8', rfl⟩ : ∃ x, m8 = x + 1 := ⟨m8 - 1, by omega⟩
 have hb := bind_l hF5; clear hF5
 obtain ⟨qrm8, H, hF5⟩ := hb
 have hnk7 : k7 < s1_.length := by omega
 have hIk7 : InI ((k7 : Int) + 1) := inI_len hk7 ml1
 refine GoC.skip ?_
 refine GoK.code ?_
 refine GoC.seq ?_
 refine GoC.block ?_
 refine GoC.seq ?_
 refine GoC.region ?_
 refine GoO.pure (ps_move rfl rfl) ?_
 refine GoO.pure (ps_assign rfl rfl) ?_
 refine GoO.nil ?_
 refine GoK.code ?_
 refine GoC.seq ?_
 refine GoC.drawA (.q 0 (.q 1 (.q 2 (.q 3 (.q 4 (.q 5 (.q 6 (.q 7 (.q 8 (.done)))))))))) follows (by kernel_rfl) ?_
 refine GoP.qN rfl (ps_move rfl rfl) ?_
 refine GoP.qN rfl (ps_move rfl rfl) ?_
 refine GoP.qN rfl (ps_indexAddrRN rfl rfl hnk7 rfl) ?_
 refine GoP.qN rfl (ps_loadR rfl hnk7 rfl rfl) ?_
 refine GoP.qN rfl (ps_move rfl rfl) ?_
 refine GoP.qN rfl (ps_move rfl rfl) ?_
 have c9 := ck_l H; replace H := ck_r H
 refine GoP.qN rfl (ps_indexAddrRN rfl rfl c9 rfl) ?_
 refine GoP.qN rfl (ps_loadR rfl c9 rfl rfl) ?_
 refine GoP.qN rfl (ps_neq rfl rfl rfl) ?_
 refine GoP.done ?_
 refine GoK.code ?_
 refine GoC.condD rfl (fun h10 => ?_) (fun h10 => ?_)
 replace H := ite_t h10 H
 refine GoC.seq ?_
 refine GoC.region ?_
 refine GoO.pure (ps_assign rfl rfl) ?_
 refine GoO.nil ?_
 refine GoK.code ?_
 obtain rfl := Option.some.inj H
 obtain rfl := Option.some.inj hF5
 obtain rfl := Option.some.inj HK4
 exact GoC.retL (ds := [.v (.bool false)]) Try.results31 (ResL.cons (ResD.tmp rfl) (ResL.nil)) (Take.nil _) ⟨rfl, rfl⟩
 replace H := ite_f h10 H
 refine GoC.skip ?_
 refine GoK.blk ?_
 refine GoK.code ?_
 refine GoC.region ?_
 refine GoO.pure (ps_add rfl rfl rfl hIk7) ?_
 refine GoO.pure (ps_move rfl rfl) ?_
 refine GoO.nil ?_
 obtain rfl := Option.some.inj H
 exact GoK.againJ m8' (by omega) ⟨_, ⟨by omega, hF5⟩, rfl, rfl⟩ (EnvD.eq rfl (EnvD.eq rfl (EnvD.eq rfl (EnvD.eq rfl (EnvD.nil))))) (TkD.nil _)
 obtain rfl : m8 = 0 := by omega
 refine GoC.exit rfl ?_
 cases hF5
 exact GoK.meet ⟨rfl, rfl, rfl⟩ (EnvD.nil) (TkD.nil _)
 rintro v h ⟨rfl, rfl, rfl⟩
 have H := HK4; clear HK4
 refine GoK.code ?_
 refine GoC.seq ?_
 refine GoC.region ?_
 refine GoO.pure (ps_assign rfl rfl) ?_
 refine GoO.nil ?_
 refine GoK.code ?_
 obtain rfl := Option.some.inj H
 exact GoC.retL (ds := [.v (.bool true)]) Try.results31 (ResL.cons (ResD.tmp rfl) (ResL.nil)) (Take.nil _) ⟨rfl, rfl⟩

def slices_Reverse_int_B1 : ((List Int) × Nat × Int) → Option (Ct ((List Int) × Nat × Int) ((List Int))) := fun (l3, n4, x5) =>
 if ((n4 : Nat) : Int) < x5 then
  ck (0 ≤ x5 ∧ x5 < ((l3.length : Nat) : Int)) <|
  ck (n4 < l3.length) <|
  ck (InI (((n4 : Nat) : Int) + 1)) <|
  ck (InI (x5 - 1)) <|
  some (.go (((l3.set n4 (l3.getD x5.toNat (0 : Int))).set x5.toNat (l3.getD n4 (0 : Int))), (n4 + 1), (x5 - 1)))
 else
  some (.brk (l3, n4, x5))
def slices_Reverse_int_F (p0 : (List Int)) : Option ((List Int)) :=
 ck (InI (((p0.length : Nat) : Int) - 1)) <|
 (loopC (slices_Reverse_int_B1) 1000000 (p0, 0, (((p0.length : Nat) : Int) - 1))).bind fun q => match q with
 | .go (l9, n10, x11) =>
  some l9
 | .ret x => some x
def slices_Reverse_int_P (out : (List Int)) (βp0 : BK) (d : D) (H : List HL) : Prop := d = .tp 0 (nth []) ∧ H = [.one βp0 3 1 (row out)]
theorem slices_Reverse_int_I (out : (List Int)) (βp0 : BK) : IndepP (slices_Reverse_int_P out βp0) := IndepP.of (by rintro _ _ ⟨rfl, rfl⟩; exact ⟨inferInstance, inferInstance⟩)
set_option maxRecDepth 100000 in
set_option maxHeartbeats 4000000 in
theorem slices_Reverse_int_spec (p0 : (List Int)) (βp0 : BK) {out : (List Int)} (H : slices_Reverse_int_F p0 = some out) : Does Try.prog 54 [.own βp0 1 0 p0.length] [.one βp0 3 1 (row p0)] (slices_Reverse_int_P out βp0) := by
 unfold slices_Reverse_int_F at H
 refine Does.intro Try.func54 rfl Try.ntmps54 rfl fun w0 I0 => ?_
 refine GoC.seq ?_
 refine GoC.region ?_
 refine GoO.pure (ps_move rfl rfl) ?_
 refine GoO.pure (ps_len rfl (by constructor) rfl) ?_
 refine GoO.lenLe (n := p0.length) (x := .tmp 4) rfl (by constructor) own_lenLe (fun ml1 => ?_)
 have c2 := ck_l H; replace H := ck_r H
 refine GoO.pure (ps_sub rfl rfl rfl c2) ?_
 refine GoO.pure (ps_assign rfl rfl) ?_
 refine GoO.pure (ps_assign rfl rfl) ?_
 refine GoO.nil ?_
 refine GoK.code ?_
 have hb := bind_l H; clear H
 obtain ⟨q8, hl18, HK6⟩ := hb
 refine GoC.blockJ [] [] (fun v h => ∃ (l9 : (List Int)) (n10 : Nat) (x11 : Int), q8 = .go (l9, n10, x11) ∧ v = [] ∧ h = [.one βp0 3 1 (row l9)]) ?_ ?_
 refine GoC.loopJ [] [] (fun m v h => ∃ (l3 : (List Int)) (n4 : Nat) (x5 : Int), loopC (slices_Reverse_int_B1) m (l3, n4, x5) = some q8 ∧ v = [(0, .own βp0 1 0 l3.length), (2, .v (.int .i64 ((n4 : Nat) : Int))), (3, .v (.int .i64 x5))] ∧ h = [.one βp0 3 1 (row l3)]) 1000000 ⟨_, _, _, hl18, rfl, rfl⟩ (EnvD.cons rfl (DLe.len (by first | rfl | omega | (simp only [row_len] <;> first | rfl | omega))) (EnvD.eq rfl (EnvD.eq rfl (EnvD.nil)))) (TkD.cons _ _ _ _ _ Rem.p0 (HLe.refl _) (TkD.nil _)) ?_
 rintro m12 v h ⟨l3, n4, x5, hF7, rfl, rfl⟩
 obtain ⟨m12', rfl⟩ | rfl : (∃ x, m12 = x + 1) ∨ m12 = 0 := by cases m12 <;> simp
 case inr => cases hF7
 have hb := bind_l hF7; clear hF7
 obtain ⟨qrm12, H, hF7⟩ := hb
 refine GoC.seq ?_
 refine GoC.seq ?_
 refine GoC.region ?_
 refine GoO.pure (ps_move rfl rfl) ?_
 refine GoO.pure (ps_move rfl rfl) ?_
 refine GoO.pure (ps_lss rfl rfl rfl) ?_
 refine GoO.nil ?_
 refine GoK.code ?_
 refine GoC.condD rfl (fun h13 => ?_) (fun h13 => ?_)
 replace H := ite_t h13 H
 refine GoC.skip ?_
 refine GoK.code ?_
 refine GoC.seq ?_
 refine GoC.block ?_
 refine GoC.drawP (.q 0 (.q 1 (.q 2 (.q 3 (.q 4 (.q 5 (.q 6 (.q 8 (.q 9 (.q 10 (.two 7 11 (.one 11 (.q 12 (.one 13 (.q 14 (.one 15 (.done)))))) (.one 7 (.q 12 (.one 13 (.q 14 (.one 15 (.done))))))))))))))))) [] follows (by kernel_rfl) (Take.nil _) ?_
 refine GoP.qN rfl (ps_move rfl rfl) ?_
 refine GoP.qN rfl (ps_move rfl rfl) ?_
 refine GoP.qN rfl (ps_move rfl rfl) ?_
 refine GoP.qN rfl (ps_move rfl rfl) ?_
 refine GoP.qN rfl (ps_move rfl rfl) ?_
 refine GoP.qN rfl (ps_move rfl rfl) ?_
 have c14 := ck_l H; replace H := ck_r H
 refine GoP.qN rfl (ps_indexAddr0 rfl rfl c14 rfl) ?_
 refine GoP.qN rfl (ps_move rfl rfl) ?_
 refine GoP.qN rfl (ps_move rfl rfl) ?_
 have c15 := ck_l H; replace H := ck_r H
 refine GoP.qN rfl (ps_indexAddr0N rfl rfl c15 rfl) ?_
 apply GoP.fork0
 exact rfl
 exact rfl
 exact trivial
 exact trivial
 exact Eff.pure (H1 := [.one βp0 3 1 (row l3)]) (ps_load rfl At.p0 At.p0 (idx_lt c14) rfl rfl)
 exact Eff.pure (H1 := [.one βp0 3 1 (row l3)]) (ps_load rfl At.p0 At.p0 c15 rfl rfl)
 exact (Take.nil _)
 exact (Take.nil _)
 intro hQ
 rintro _ rfl
 refine GoP.oneN rfl (ps_load rfl At.p0 At.p0 c15 rfl rfl) (Take.nil _) ?_
 refine GoP.qN rfl (ps_indexAddr0N rfl rfl c15 rfl) ?_
 refine GoP.one1 rfl trivial (ef_store rfl rfl rfl At.p0 (upd_row1 (v := (l3.getD x5.toNat (0 : Int))) rfl) c15 rfl) (Take.cons _ _ _ _ _ Rem.p0 (Take.nil _)) ?_
 refine GoP.qN rfl (ps_indexAddr0 rfl rfl c14 rfl) ?_
 refine GoP.one1 rfl trivial (ef_store rfl rfl rfl At.p0 (upd_row1 (v := (l3.getD n4 (0 : Int))) rfl) (lt_len (idx_lt c14) (by first | rfl | omega | (simp only [row_len, List.length_set] <;> first | rfl | omega))) rfl) (Take.cons _ _ _ _ _ Rem.p0 (Take.nil _)) ?_
 exact GoP.done (hQ)
 intro hQ
 rintro _ rfl
 refine GoP.oneN rfl (ps_load rfl At.p0 At.p0 (idx_lt c14) rfl rfl) (Take.nil _) ?_
 refine GoP.qN rfl (ps_indexAddr0N rfl rfl c15 rfl) ?_
 refine GoP.one1 rfl trivial (ef_store rfl rfl rfl At.p0 (upd_row1 (v := (l3.getD x5.toNat (0 : Int))) rfl) c15 rfl) (Take.cons _ _ _ _ _ Rem.p0 (Take.nil _)) ?_
 refine GoP.qN rfl (ps_indexAddr0 rfl rfl c14 rfl) ?_
 refine GoP.one1 rfl trivial (ef_store rfl rfl rfl At.p0 (upd_row1 (v := (l3.getD n4 (0 : Int))) rfl) (lt_len (idx_lt c14) (by first | rfl | omega | (simp only [row_len, List.length_set] <;> first | rfl | omega))) rfl) (Take.cons _ _ _ _ _ Rem.p0 (Take.nil _)) ?_
 refine GoP.done (GoK.le ?_ (hQ))
 refine Le.ofDW ?_ (TkD.cons _ _ _ _ _ Rem.p0 (HLe.refl _) (TkD.nil _))
 repeat (first | exact EnvLeW.nil | refine EnvLeW.cons rfl ?_ | refine EnvLeW.skip rfl ?_)
 refine GoK.blk ?_
 refine GoK.code ?_
 refine GoC.region ?_
 refine GoO.pure (ps_move rfl rfl) ?_
 have c16 := ck_l H; replace H := ck_r H
 refine GoO.pure (ps_add rfl rfl rfl c16) ?_
 refine GoO.pure (ps_move rfl rfl) ?_
 have c17 := ck_l H; replace H := ck_r H
 refine GoO.pure (ps_sub rfl rfl rfl c17) ?_
 refine GoO.pure (ps_assign rfl rfl) ?_
 refine GoO.pure (ps_assign rfl rfl) ?_
 refine GoO.nil ?_
 obtain rfl := Option.some.inj H
 exact GoK.againJ m12' (by omega) ⟨_, _, _, hF7, rfl, rfl⟩ (EnvD.cons rfl (DLe.len (by first | rfl | omega | (simp only [row_len, List.length_set] <;> first | rfl | omega))) (EnvD.eq rfl (EnvD.eq rfl (EnvD.nil)))) (TkD.cons _ _ _ _ _ Rem.p0 (HLe.refl _) (TkD.nil _))
 replace H := ite_f h13 H
 refine GoC.exit rfl ?_
 obtain rfl := Option.some.inj H
 obtain rfl := Option.some.inj hF7
 exact GoK.meet ⟨_, _, _, rfl, rfl, rfl⟩ (EnvD.nil) (TkD.cons _ _ _ _ _ Rem.p0 (HLe.refl _) (TkD.nil _))
 rintro v h ⟨l9, n10, x11, rfl, rfl, rfl⟩
 have H := HK6; clear HK6
 obtain rfl := Option.some.inj H
 exact GoK.retL (ds := []) Try.results54 (ResL.nil) (Take.cons _ _ _ _ _ Rem.p0 (Take.nil _)) ⟨rfl, rfl⟩

end Go.Proofs.Ytblhoelmodbifaa
