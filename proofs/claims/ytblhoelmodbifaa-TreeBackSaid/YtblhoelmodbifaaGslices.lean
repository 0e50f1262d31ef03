/- The functions slices.Index.int, slices.Equal.Arc, slices.Clone.Arc, slices.Delete.Arc, slices.Reverse.Arc, slices.Equal.int, told as plain functions, and that the code does as they say. -/
import Derived.Test.YtblhoelmodbifaaTys
import Derived.Test.YtblhoelmodbifaaDat
namespace Go.Proofs.Ytblhoelmodbifaa
open Go Go.Proofs.Ytblhoelmodbifaa.Sx
set_option linter.unusedVariables false
set_option linter.unusedSimpArgs false
def slices_Index_int_B1 (s_ : (List Int)) (v_ : Int) : Nat → Unit → Option (Ct (Unit) (Int)) := fun k5 _ =>
 if v_ = (s_.getD k5 (0 : Int)) then
  some (.ret ((k5 : Nat) : Int))
 else
  some (.go ())
def slices_Index_int_F (s_ : (List Int)) (v_ : Int) : Option (Int) :=
 (forC (slices_Index_int_B1 s_ v_) s_.length 0 ()).bind fun q => match q with
 | .go _ =>
  some (-1)
 | .ret x => some x
def slices_Index_int_P (out : Int) (d : D) (H : List HL) : Prop := d = .v (.int .i64 out) ∧ H = []
theorem slices_Index_int_I (out : Int) : IndepP (slices_Index_int_P out) := IndepP.of (by rintro _ _ ⟨rfl, rfl⟩; exact ⟨inferInstance, inferInstance⟩)
set_option maxRecDepth 100000 in
set_option maxHeartbeats 4000000 in
theorem slices_Index_int_spec (s_ : (List Int)) (v_ : Int) {out : Int} (H : slices_Index_int_F s_ v_ = some out) : Does Try.prog 45 [slD s_, .v (.int .i64 v_)] [] (slices_Index_int_P out) := by
 unfold slices_Index_int_F at H
 refine Does.intro Try.func45 rfl Try.ntmps45 rfl fun w0 I0 => ?_
 refine GoC.seq ?_
 refine GoC.region ?_
 refine GoO.pure (ps_assign rfl rfl) ?_
 refine GoO.nil ?_
 refine GoK.code ?_
 refine GoC.seq ?_
 refine GoC.seq ?_
 refine GoC.region ?_
 refine GoO.pure (ps_move rfl rfl) ?_
 refine GoO.pure (ps_len rfl (by constructor) rfl) ?_
 refine GoO.lenLe (n := s_.length) (x := .tmp 6) rfl (by constructor) sl_lenLe (fun ml1 => ?_)
 refine GoO.pure (ps_move rfl rfl) ?_
 refine GoO.nil ?_
 refine GoK.code ?_
 have hb := bind_l H; clear H
 obtain ⟨q4, hl8, HK2⟩ := hb
 refine GoC.blockJ [] [] (fun v h => q4 = .go () ∧ v = [] ∧ h = []) ?_ ?_
 refine GoC.loopJ [(0, _), (1, _), (7, _)] [] (fun mQ v h => ∃ (k5 : Nat), (k5 + mQ = s_.length ∧ forC (slices_Index_int_B1 s_ v_) mQ k5 () = some q4) ∧ v = [(8, .v (.int .i64 ((k5 : Nat) : Int)))] ∧ h = []) s_.length ⟨_, ⟨by omega, hl8⟩, rfl, rfl⟩ (EnvD.eq rfl (EnvD.eq rfl (EnvD.eq rfl (EnvD.eq rfl (EnvD.nil))))) (TkD.nil _) ?_
 rintro m6 v h ⟨k5, ⟨hkk5, hF3⟩, rfl, rfl⟩
 refine GoC.seq ?_
 refine GoC.region ?_
 refine GoO.pure (ps_lss rfl rfl rfl) ?_
 refine GoO.nil ?_
 refine GoK.code ?_
 refine GoC.seq ?_
 refine GoC.condD rfl (fun (hk5 : (k5 : Int) < ((s_.length : Nat) : Int)) => ?_) (fun (hk5 : ¬ (k5 : Int) < ((s_.length : Nat) : Int)) => ?_)
 obtain ⟨m6', rfl⟩ : ∃ x, m6 = x + 1 := ⟨m6 - 1, by omega⟩
 have hb := bind_l hF3; clear hF3
 obtain ⟨qrm6, H, hF3⟩ := hb
 have hnk5 : k5 < s_.length := by omega
 have hIk5 : InI ((k5 : Int) + 1) := inI_len hk5 ml1
 refine GoC.skip ?_
 refine GoK.code ?_
 refine GoC.seq ?_
 refine GoC.block ?_
 refine GoC.seq ?_
 refine GoC.region ?_
 refine GoO.pure (ps_move rfl rfl) ?_
 refine GoO.pure (ps_assign rfl rfl) ?_
 refine GoO.nil ?_
 refine GoK.code ?_
 refine GoC.seq ?_
 refine GoC.region ?_
 refine GoO.pure (ps_move rfl rfl) ?_
 refine GoO.pure (ps_move rfl rfl) ?_
 refine GoO.pure (ps_move rfl rfl) ?_
 refine GoO.pure (ps_indexAddrRN rfl rfl hnk5 rfl) ?_
 refine GoO.pure (ps_loadR rfl hnk5 rfl rfl) ?_
 refine GoO.pure (ps_eql rfl rfl rfl) ?_
 refine GoO.nil ?_
 refine GoK.code ?_
 refine GoC.condD rfl (fun h7 => ?_) (fun h7 => ?_)
 replace H := ite_t h7 H
 refine GoC.seq ?_
 refine GoC.region ?_
 refine GoO.pure (ps_move rfl rfl) ?_
 refine GoO.pure (ps_assign rfl rfl) ?_
 refine GoO.nil ?_
 refine GoK.code ?_
 obtain rfl := Option.some.inj H
 obtain rfl := Option.some.inj hF3
 obtain rfl := Option.some.inj HK2
 exact GoC.retL (ds := [.v (.int .i64 ((k5 : Nat) : Int))]) Try.results45 (ResL.cons (ResD.tmp rfl) (ResL.nil)) (Take.nil _) ⟨rfl, rfl⟩
 replace H := ite_f h7 H
 refine GoC.skip ?_
 refine GoK.blk ?_
 refine GoK.code ?_
 refine GoC.region ?_
 refine GoO.pure (ps_add rfl rfl rfl hIk5) ?_
 refine GoO.pure (ps_move rfl rfl) ?_
 refine GoO.nil ?_
 obtain rfl := Option.some.inj H
 exact GoK.againJ m6' (by omega) ⟨_, ⟨by omega, hF3⟩, rfl, rfl⟩ (EnvD.eq rfl (EnvD.eq rfl (EnvD.eq rfl (EnvD.eq rfl (EnvD.nil))))) (TkD.nil _)
 obtain rfl : m6 = 0 := by omega
 refine GoC.exit rfl ?_
 cases hF3
 exact GoK.meet ⟨rfl, rfl, rfl⟩ (EnvD.nil) (TkD.nil _)
 rintro v h ⟨rfl, rfl, rfl⟩
 have H := HK2; clear HK2
 refine GoK.code ?_
 refine GoC.seq ?_
 refine GoC.region ?_
 refine GoO.pure (ps_assign rfl rfl) ?_
 refine GoO.nil ?_
 refine GoK.code ?_
 obtain rfl := Option.some.inj H
 exact GoC.retL (ds := [.v (.int .i64 (-1))]) Try.results45 (ResL.cons (ResD.tmp rfl) (ResL.nil)) (Take.nil _) ⟨rfl, rfl⟩

def slices_Equal_Arc_B1 (s1_ : (List Arc)) (s2_ : (List Arc)) : Nat → Unit → Option (Ct (Unit) (Bool)) := fun k7 _ =>
 ck (k7 < s2_.length) <|
 if ¬ (((s1_.getD k7 El.d).f) = ((s2_.getD k7 El.d).f) ∧ ((s1_.getD k7 El.d).t) = ((s2_.getD k7 El.d).t) ∧ ((s1_.getD k7 El.d).c) = ((s2_.getD k7 El.d).c)) then
  some (.ret false)
 else
  some (.go ())
def slices_Equal_Arc_F (s1_ : (List Arc)) (s2_ : (List Arc)) : Option (Bool) :=
 if ((s1_.length : Nat) : Int) ≠ ((s2_.length : Nat) : Int) then
  some false
 else
  (forC (slices_Equal_Arc_B1 s1_ s2_) s1_.length 0 ()).bind fun q => match q with
  | .go _ =>
   some true
  | .ret x => some x
def slices_Equal_Arc_P (out : Bool) (d : D) (H : List HL) : Prop := d = .v (.bool out) ∧ H = []
theorem slices_Equal_Arc_I (out : Bool) : IndepP (slices_Equal_Arc_P out) := IndepP.of (by rintro _ _ ⟨rfl, rfl⟩; exact ⟨inferInstance, inferInstance⟩)
set_option maxRecDepth 100000 in
set_option maxHeartbeats 4000000 in
theorem slices_Equal_Arc_spec (s1_ : (List Arc)) (s2_ : (List Arc)) {out : Bool} (H : slices_Equal_Arc_F s1_ s2_ = some out) : Does Try.prog 26 [slD s1_, slD s2_] [] (slices_Equal_Arc_P out) := by
 unfold slices_Equal_Arc_F at H
 refine Does.intro Try.func26 rfl Try.ntmps26 rfl fun w0 I0 => ?_
 refine GoC.seq ?_
 refine GoC.region ?_
 refine GoO.pure (ps_assign rfl rfl) ?_
 refine GoO.nil ?_
 refine GoK.code ?_
 refine GoC.seq ?_
 refine GoC.seq ?_
 refine GoC.region ?_
 refine GoO.pure (ps_move rfl rfl) ?_
 refine GoO.pure (ps_len rfl (by constructor) rfl) ?_
 refine GoO.lenLe (n := s1_.length) (x := .tmp 6) rfl (by constructor) sl_lenLe (fun ml1 => ?_)
 refine GoO.pure (ps_move rfl rfl) ?_
 refine GoO.pure (ps_len rfl (by constructor) rfl) ?_
 refine GoO.lenLe (n := s2_.length) (x := .tmp 8) rfl (by constructor) sl_lenLe (fun ml2 => ?_)
 refine GoO.pure (ps_neq rfl rfl rfl) ?_
 refine GoO.nil ?_
 refine GoK.code ?_
 refine GoC.condD rfl (fun h3 => ?_) (fun h3 => ?_)
 replace H := ite_t h3 H
 refine GoC.seq ?_
 refine GoC.region ?_
 refine GoO.pure (ps_assign rfl rfl) ?_
 refine GoO.nil ?_
 refine GoK.code ?_
 obtain rfl := Option.some.inj H
 exact GoC.retL (ds := [.v (.bool false)]) Try.results26 (ResL.cons (ResD.tmp rfl) (ResL.nil)) (Take.nil _) ⟨rfl, rfl⟩
 replace H := ite_f h3 H
 refine GoC.skip ?_
 refine GoK.code ?_
 refine GoC.seq ?_
 refine GoC.seq ?_
 refine GoC.region ?_
 refine GoO.pure (ps_move rfl rfl) ?_
 refine GoO.pure (ps_len rfl (by constructor) rfl) ?_
 refine GoO.pure (ps_move rfl rfl) ?_
 refine GoO.nil ?_
 refine GoK.code ?_
 have hb := bind_l H; clear H
 obtain ⟨q6, hl11, HK4⟩ := hb
 refine GoC.blockJ [] [] (fun v h => q6 = .go () ∧ v = [] ∧ h = []) ?_ ?_
 refine GoC.loopJ [(0, _), (1, _), (12, _)] [] (fun mQ v h => ∃ (k7 : Nat), (k7 + mQ = s1_.length ∧ forC (slices_Equal_Arc_B1 s1_ s2_) mQ k7 () = some q6) ∧ v = [(13, .v (.int .i64 ((k7 : Nat) : Int)))] ∧ h = []) s1_.length ⟨_, ⟨by omega, hl11⟩, rfl, rfl⟩ (EnvD.eq rfl (EnvD.eq rfl (EnvD.eq rfl (EnvD.eq rfl (EnvD.nil))))) (TkD.nil _) ?_
 rintro m8 v h ⟨k7, ⟨hkk7, hF5⟩, rfl, rfl⟩
 refine GoC.seq ?_
 refine GoC.region ?_
 refine GoO.pure (ps_lss rfl rfl rfl) ?_
 refine GoO.nil ?_
 refine GoK.code ?_
 refine GoC.seq ?_
 refine GoC.condD rfl (fun (hk7 : (k7 : Int) < ((s1_.length : Nat) : Int)) => ?_) (fun (hk7 : ¬ (k7 : Int) < ((s1_.length : Nat) : Int)) => ?_)
 obtain ⟨m8', rfl⟩ : ∃ x, m8 = x + 1 := ⟨m8 - 1, by omega⟩
 have hb := bind_l hF5; clear hF5
 obtain ⟨qrm8, H, hF5⟩ := hb
 have hnk7 : k7 < s1_.length := by omega
 have hIk7 : InI ((k7 : Int) + 1) := inI_len hk7 ml1
 refine GoC.skip ?_
 refine GoK.code ?_
 refine GoC.seq ?_
 refine GoC.block ?_
 refine GoC.seq ?_
 refine GoC.region ?_
 refine GoO.pure (ps_move rfl rfl) ?_
 refine GoO.pure (ps_assign rfl rfl) ?_
 refine GoO.nil ?_
 refine GoK.code ?_
 refine GoC.seq ?_
 refine GoC.drawA (.q 0 (.q 1 (.q 2 (.q 3 (.q 4 (.q 5 (.q 6 (.q 7 (.q 8 (.done)))))))))) follows (by kernel_rfl) ?_
 refine GoP.qN rfl (ps_move rfl rfl) ?_
 refine GoP.qN rfl (ps_move rfl rfl) ?_
 refine GoP.qN rfl (ps_indexAddrRN rfl rfl hnk7 rfl) ?_
 refine GoP.qN rfl (ps_loadAgR rfl hnk7 rfl rfl) ?_
 refine GoP.qN rfl (ps_move rfl rfl) ?_
 refine GoP.qN rfl (ps_move rfl rfl) ?_
 have c9 := ck_l H; replace H := ck_r H
 refine GoP.qN rfl (ps_indexAddrRN rfl rfl c9 rfl) ?_
 refine GoP.qN rfl (ps_loadAgR rfl c9 rfl rfl) ?_
 refine GoP.qN rfl (ps_neqS rfl rfl rfl rfl rfl rfl rfl rfl rfl) ?_
 refine GoP.done ?_
 refine GoK.code ?_
 refine GoC.condD rfl (fun h10 => ?_) (fun h10 => ?_)
 replace H := ite_t h10 H
 refine GoC.seq ?_
 refine GoC.region ?_
 refine GoO.pure (ps_assign rfl rfl) ?_
 refine GoO.nil ?_
 refine GoK.code ?_
 obtain rfl := Option.some.inj H
 obtain rfl := Option.some.inj hF5
 obtain rfl := Option.some.inj HK4
 exact GoC.retL (ds := [.v (.bool false)]) Try.results26 (ResL.cons (ResD.tmp rfl) (ResL.nil)) (Take.nil _) ⟨rfl, rfl⟩
 replace H := ite_f h10 H
 refine GoC.skip ?_
 refine GoK.blk ?_
 refine GoK.code ?_
 refine GoC.region ?_
 refine GoO.pure (ps_add rfl rfl rfl hIk7) ?_
 refine GoO.pure (ps_move rfl rfl) ?_
 refine GoO.nil ?_
 obtain rfl := Option.some.inj H
 exact GoK.againJ m8' (by omega) ⟨_, ⟨by omega, hF5⟩, rfl, rfl⟩ (EnvD.eq rfl (EnvD.eq rfl (EnvD.eq rfl (EnvD.eq rfl (EnvD.nil))))) (TkD.nil _)
 obtain rfl : m8 = 0 := by omega
 refine GoC.exit rfl ?_
 cases hF5
 exact GoK.meet ⟨rfl, rfl, rfl⟩ (EnvD.nil) (TkD.nil _)
 rintro v h ⟨rfl, rfl, rfl⟩
 have H := HK4; clear HK4
 refine GoK.code ?_
 refine GoC.seq ?_
 refine GoC.region ?_
 refine GoO.pure (ps_assign rfl rfl) ?_
 refine GoO.nil ?_
 refine GoK.code ?_
 obtain rfl := Option.some.inj H
 exact GoC.retL (ds := [.v (.bool true)]) Try.results26 (ResL.cons (ResD.tmp rfl) (ResL.nil)) (Take.nil _) ⟨rfl, rfl⟩

def slices_Clone_Arc_F (s_ : (List Arc)) : Option ((List Arc)) :=
 ck (0 + s_.length ≤ 5864062014805) <|
 some (([] : List Arc) ++ s_)
def slices_Clone_Arc_P (out : (List Arc)) (d : D) (H : List HL) : Prop := ∃ β1 : BK, d = .own β1 3 0 out.length ∧ H = [.one β1 43 3 (row out)]
theorem slices_Clone_Arc_I (out : (List Arc)) : IndepP (slices_Clone_Arc_P out) := IndepP.of (by rintro _ _ ⟨β1, rfl, rfl⟩; exact ⟨inferInstance, inferInstance⟩)
set_option maxRecDepth 100000 in
set_option maxHeartbeats 4000000 in
theorem slices_Clone_Arc_spec (s_ : (List Arc)) {out : (List Arc)} (H : slices_Clone_Arc_F s_ = some out) : Does Try.prog 35 [slD s_] [] (slices_Clone_Arc_P out) := by
 unfold slices_Clone_Arc_F at H
 refine Does.intro Try.func35 rfl Try.ntmps35 rfl fun w0 I0 => ?_
 refine GoC.seq ?_
 refine GoC.region ?_
 refine GoO.pure (ps_assign rfl rfl) ?_
 refine GoO.nil ?_
 refine GoK.code ?_
 refine GoC.seq ?_
 refine GoC.seq ?_
 refine GoC.region ?_
 refine GoO.pure (ps_move rfl rfl) ?_
 refine GoO.eff (ef_eqlNil rfl rfl rfl) (fun s2 hs2 => ?_)
 obtain ⟨bn1, hbn1, rfl⟩ := hs2
 refine GoO.nil ?_
 refine GoK.code ?_
 refine GoC.cond rfl (fun h2 => ?_) (fun h2 => ?_)
 have e0 := List.eq_nil_of_length_eq_zero (hbn1 h2); subst e0; replace H := ck_r H
 refine GoC.seq ?_
 refine GoC.region ?_
 refine GoO.pure (ps_assign rfl rfl) ?_
 refine GoO.nil ?_
 refine GoK.code ?_
 obtain rfl := Option.some.inj H
 refine GoC.le (le_row0 43 3 (row ([] : List Arc)) rfl) ?_
 exact GoC.retL (ds := [.own ⟨0, 0, 0⟩ 3 0 0]) Try.results35 (ResL.cons (ResD.le (ResD.tmp rfl) (by exact DLe.nilOwn)) (ResL.nil)) (Take.cons _ _ _ _ _ Rem.p0 (Take.nil _)) ⟨⟨0, 0, 0⟩, rfl, rfl⟩
 refine GoC.skip ?_
 refine GoK.code ?_
 refine GoC.seq ?_
 refine GoC.region ?_
 refine GoO.effB (ef_buildSlice (row (([] : List Arc) : List Arc)) rfl (Parts.nil _) rfl rfl rfl rfl) (fun β3 => ?_)
 refine GoO.pure (ps_move rfl rfl) ?_
 have c5 := ck_l H; replace H := ck_r H
 refine GoO.effB (ef_append rfl rfl Rem.p0 Src.sl (cat_row (α := Arc) (by first | rfl | omega | (simp only [subl_length, cpl_length, List.length_set, List.length_append, List.length_cons, List.length_nil, List.length_replicate, row_len] <;> first | rfl | omega)) (by first | rfl | omega | (simp only [subl_length, cpl_length, List.length_set, List.length_append, List.length_cons, List.length_nil, List.length_replicate, row_len] <;> first | rfl | omega)) (fun _ _ _ _ => rfl)) (by first | omega | (simp only [subl_length, cpl_length, List.length_set, List.length_append, List.length_cons, List.length_nil, List.length_replicate, row_len]; omega) | (simp only [subl_length, cpl_length, List.length_set, List.length_append, List.length_cons, List.length_nil, List.length_replicate, row_len]; done)) (app_le c5 rfl) rfl rfl rfl) (fun β4 => ?_)
 refine GoO.pure (ps_assign rfl rfl) ?_
 refine GoO.nil ?_
 refine GoK.code ?_
 obtain rfl := Option.some.inj H
 exact GoC.retL (ds := [.own β4 3 0 (([] : List Arc) ++ s_).length]) Try.results35 (ResL.cons (ResD.le (ResD.tmp rfl) (by exact DLe.len (by first | rfl | omega | (simp only [row_len, List.length_append, List.length_cons, List.length_nil, List.length_nil] <;> first | rfl | omega)))) (ResL.nil)) (Take.cons _ _ _ _ _ Rem.p0 (Take.nil _)) ⟨β4, rfl, rfl⟩

def slices_Delete_Arc_F (l : (List Arc)) (i j : Int) : Option (List Arc) := ck (0 ≤ i) <| ck (i ≤ j) <| ck (j ≤ (l.length : Int)) <| ck (l.length ≤ 5864062014805) <| some (del l i.toNat j.toNat)
def slices_Delete_Arc_P (out : (List Arc)) (βl : BK) (d : D) (H : List HL) : Prop := ∃ β1 : BK, d = .own β1 3 0 out.length ∧ H = [.one β1 43 3 (row out)]
theorem slices_Delete_Arc_I (out : (List Arc)) (βl : BK) : IndepP (slices_Delete_Arc_P out βl) := IndepP.of (by rintro _ _ ⟨β1, rfl, rfl⟩; exact ⟨inferInstance, inferInstance⟩)
set_option maxRecDepth 100000 in
set_option maxHeartbeats 4000000 in
theorem slices_Delete_Arc_spec (l : (List Arc)) (i j : Int) (βl : BK) {out : (List Arc)} (H : slices_Delete_Arc_F l i j = some out) : Does Try.prog 49 [.own βl 3 0 l.length, .v (.int .i64 i), .v (.int .i64 j)] [.one βl 43 3 (row l)] (slices_Delete_Arc_P out βl) := by
 unfold slices_Delete_Arc_F at H
 have c1 := ck_l H; replace H := ck_r H
 have c2 := ck_l H; replace H := ck_r H
 have c3 := ck_l H; replace H := ck_r H
 have c4 := ck_l H; replace H := ck_r H
 obtain rfl := Option.some.inj H
 obtain ⟨a, rfl⟩ := Int.eq_ofNat_of_zero_le c1
 obtain ⟨b, rfl⟩ := Int.eq_ofNat_of_zero_le (Int.le_trans c1 c2)
 simp only [Int.ofNat_eq_natCast, Int.toNat_natCast] at *
 have ab : a ≤ b := by omega
 have bl : b ≤ l.length := by omega
 have dl : (del l a b).length = a + (l.length - b) := del_length (by omega)
 refine Does.intro Try.func49 rfl Try.ntmps49 rfl fun w0 I0 => ?_
 refine GoC.seq ?_
 refine GoC.region ?_
 refine GoO.pure (ps_assign rfl rfl) ?_
 refine GoO.nil ?_
 refine GoK.code ?_
 refine GoC.exactJ 0 rfl fun ad m hE => ?_
 have lm := hE.le
 refine GoC.seq ?_
 refine GoC.region ?_
 refine GoO.pure (ps_move rfl rfl) ?_
 refine GoO.pure (ps_move rfl rfl) ?_
 refine GoO.pure (ps_move rfl rfl) ?_
 refine GoO.pure (ps_move rfl rfl) ?_
 refine GoO.pure (ps_len rfl (by constructor) rfl) ?_
 refine GoO.pure (ps_slice3J rfl rfl rfl rfl ab bl lm rfl) ?_
 refine GoO.nil ?_
 refine GoK.code ?_
 refine GoC.seq ?_
 refine GoC.seq ?_
 refine GoC.region ?_
 refine GoO.pure (ps_move rfl rfl) ?_
 refine GoO.pure (ps_move rfl rfl) ?_
 refine GoO.pure (ps_eql rfl rfl rfl) ?_
 refine GoO.nil ?_
 refine GoK.code ?_
 refine GoC.condD rfl (fun (hc : (a : Int) = (b : Int)) => ?_) (fun (hc : ¬ (a : Int) = (b : Int)) => ?_)
 refine GoC.seq ?_
 refine GoC.region ?_
 refine GoO.pure (ps_move rfl rfl) ?_
 refine GoO.pure (ps_assign rfl rfl) ?_
 refine GoO.nil ?_
 refine GoK.code ?_
 have ab' : a = b := by omega
 have ed : del l a b = l := by rw [← ab']; exact List.take_append_drop a l
 rw [ed]
 exact GoC.retL (ds := [.own βl 3 0 l.length]) Try.results49 (ResL.cons (ResD.le (ResD.tmp rfl) (DLe.exact hE)) (ResL.nil)) (Take.cons _ _ _ _ _ Rem.p0 (Take.nil _)) ⟨βl, rfl, rfl⟩
 refine GoC.skip ?_
 refine GoK.code ?_
 have m0 : 0 < m := by omega
 refine GoC.seq ?_
 refine GoC.region ?_
 refine GoO.pure (ps_move rfl rfl) ?_
 refine GoO.pure (ps_len rfl (by constructor) rfl) ?_
 refine GoO.pure (ps_assign rfl rfl) ?_
 refine GoO.nil ?_
 refine GoK.code ?_
 refine GoC.seq ?_
 refine GoC.drawP (.q 0 (.q 1 (.q 2 (.q 3 (.q 4 (.q 5 (.one 6 (.q 7 (.done))))))))) [] follows (by kernel_rfl) (Take.nil _) ?_
 refine GoP.qN rfl (ps_move rfl rfl) ?_
 refine GoP.qN rfl (ps_move rfl rfl) ?_
 refine GoP.qN rfl (ps_sliceTo hE rfl rfl (by omega) rfl) ?_
 refine GoP.qN rfl (ps_move rfl rfl) ?_
 refine GoP.qN rfl (ps_move rfl rfl) ?_
 refine GoP.qN rfl (ps_sliceOff hE rfl rfl (Bd.no _) bl lm rfl) ?_
 refine GoP.one1 rfl trivial (ef_appendIn (hE.cut (show a ≤ m by omega)) rfl rfl At.p0 (cat_del (α := Arc) (xs := l) (i := a) (j := b) (by omega)) (by simp only [row_len]; omega) (by simp only [row_len]; omega) (by omega) m0 (by omega) (by decide) rfl) (Take.cons _ _ _ _ _ Rem.p0 (Take.nil _)) ?_
 refine GoP.qN rfl (ps_assign rfl rfl) ?_
 refine GoP.done ?_
 refine GoK.code ?_
 refine GoC.seq ?_
 refine GoC.region ?_
 refine GoO.pure (ps_move rfl rfl) ?_
 refine GoO.pure (ps_move rfl rfl) ?_
 refine GoO.pure (ps_len rfl (by constructor) rfl) ?_
 refine GoO.pure (ps_move rfl rfl) ?_
 refine GoO.pure (ps_sliceOff (hE.cut (show a + (l.length - b) ≤ m by omega)) rfl rfl (Bd.nat _ _ l.length _ rfl) (by omega) lm rfl) ?_
 refine GoO.eff1 (ef_clear rfl At.p0 (by simp only [row_len]; omega) (by decide)) ?_
 refine GoO.nil ?_
 refine GoK.code ?_
 refine GoC.seq ?_
 refine GoC.region ?_
 refine GoO.pure (ps_move rfl rfl) ?_
 refine GoO.pure (ps_assign rfl rfl) ?_
 refine GoO.nil ?_
 refine GoK.code ?_
 have hE2 := hE.cut (show a + (l.length - b) ≤ m by omega)
 rw [← dl] at hE2
 exact GoC.retL (ds := [.own βl 3 0 (del l a b).length]) Try.results49 (ResL.cons (ResD.le (ResD.tmp rfl) (by rw [← dl]; exact DLe.exact hE2)) (ResL.nil)) (Take.cons _ _ _ _ _ Rem.p0 (Take.nil _)) ⟨βl, rfl, rfl⟩

def slices_Reverse_Arc_B1 : ((List Arc) × Nat × Int) → Option (Ct ((List Arc) × Nat × Int) ((List Arc))) := fun (l3, n4, x5) =>
 if ((n4 : Nat) : Int) < x5 then
  ck (0 ≤ x5 ∧ x5 < ((l3.length : Nat) : Int)) <|
  ck (n4 < l3.length) <|
  ck (InI (((n4 : Nat) : Int) + 1)) <|
  ck (InI (x5 - 1)) <|
  some (.go (((l3.set n4 (l3.getD x5.toNat El.d)).set x5.toNat (l3.getD n4 El.d)), (n4 + 1), (x5 - 1)))
 else
  some (.brk (l3, n4, x5))
def slices_Reverse_Arc_F (p0 : (List Arc)) : Option ((List Arc)) :=
 ck (InI (((p0.length : Nat) : Int) - 1)) <|
 (loopC (slices_Reverse_Arc_B1) 1000000 (p0, 0, (((p0.length : Nat) : Int) - 1))).bind fun q => match q with
 | .go (l9, n10, x11) =>
  some l9
 | .ret x => some x
def slices_Reverse_Arc_P (out : (List Arc)) (βp0 : BK) (d : D) (H : List HL) : Prop := d = .tp 0 (nth []) ∧ H = [.one βp0 43 3 (row out)]
theorem slices_Reverse_Arc_I (out : (List Arc)) (βp0 : BK) : IndepP (slices_Reverse_Arc_P out βp0) := IndepP.of (by rintro _ _ ⟨rfl, rfl⟩; exact ⟨inferInstance, inferInstance⟩)
set_option maxRecDepth 100000 in
set_option maxHeartbeats 4000000 in
theorem slices_Reverse_Arc_spec (p0 : (List Arc)) (βp0 : BK) {out : (List Arc)} (H : slices_Reverse_Arc_F p0 = some out) : Does Try.prog 29 [.own βp0 3 0 p0.length] [.one βp0 43 3 (row p0)] (slices_Reverse_Arc_P out βp0) := by
 unfold slices_Reverse_Arc_F at H
 refine Does.intro Try.func29 rfl Try.ntmps29 rfl fun w0 I0 => ?_
 refine GoC.seq ?_
 refine GoC.region ?_
 refine GoO.pure (ps_move rfl rfl) ?_
 refine GoO.pure (ps_len rfl (by constructor) rfl) ?_
 refine GoO.lenLe (n := p0.length) (x := .tmp 4) rfl (by constructor) own_lenLe (fun ml1 => ?_)
 have c2 := ck_l H; replace H := ck_r H
 refine GoO.pure (ps_sub rfl rfl rfl c2) ?_
 refine GoO.pure (ps_assign rfl rfl) ?_
 refine GoO.pure (ps_assign rfl rfl) ?_
 refine GoO.nil ?_
 refine GoK.code ?_
 have hb := bind_l H; clear H
 obtain ⟨q8, hl18, HK6⟩ := hb
 refine GoC.blockJ [] [] (fun v h => ∃ (l9 : (List Arc)) (n10 : Nat) (x11 : Int), q8 = .go (l9, n10, x11) ∧ v = [] ∧ h = [.one βp0 43 3 (row l9)]) ?_ ?_
 refine GoC.loopJ [] [] (fun mQ v h => ∃ (l3 : (List Arc)) (n4 : Nat) (x5 : Int), loopC (slices_Reverse_Arc_B1) mQ (l3, n4, x5) = some q8 ∧ v = [(0, .own βp0 3 0 l3.length), (2, .v (.int .i64 ((n4 : Nat) : Int))), (3, .v (.int .i64 x5))] ∧ h = [.one βp0 43 3 (row l3)]) 1000000 ⟨_, _, _, hl18, rfl, rfl⟩ (EnvD.cons rfl (DLe.len (by first | rfl | omega | (simp only [row_len] <;> first | rfl | omega))) (EnvD.eq rfl (EnvD.eq rfl (EnvD.nil)))) (TkD.cons _ _ _ _ _ Rem.p0 (HLe.refl _) (TkD.nil _)) ?_
 rintro m12 v h ⟨l3, n4, x5, hF7, rfl, rfl⟩
 obtain ⟨m12', rfl⟩ | rfl : (∃ x, m12 = x + 1) ∨ m12 = 0 := by cases m12 <;> simp
 case inr => cases hF7
 have hb := bind_l hF7; clear hF7
 obtain ⟨qrm12, H, hF7⟩ := hb
 refine GoC.seq ?_
 refine GoC.seq ?_
 refine GoC.region ?_
 refine GoO.pure (ps_move rfl rfl) ?_
 refine GoO.pure (ps_move rfl rfl) ?_
 refine GoO.pure (ps_lss rfl rfl rfl) ?_
 refine GoO.nil ?_
 refine GoK.code ?_
 refine GoC.condD rfl (fun h13 => ?_) (fun h13 => ?_)
 replace H := ite_t h13 H
 refine GoC.skip ?_
 refine GoK.code ?_
 refine GoC.seq ?_
 refine GoC.block ?_
 refine GoC.drawP (.q 0 (.q 1 (.q 2 (.q 3 (.q 4 (.q 5 (.q 6 (.q 8 (.q 9 (.q 10 (.two 7 11 (.one 11 (.q 12 (.one 13 (.q 14 (.one 15 (.done)))))) (.one 7 (.q 12 (.one 13 (.q 14 (.one 15 (.done))))))))))))))))) [] follows (by kernel_rfl) (Take.nil _) ?_
 refine GoP.qN rfl (ps_move rfl rfl) ?_
 refine GoP.qN rfl (ps_move rfl rfl) ?_
 refine GoP.qN rfl (ps_move rfl rfl) ?_
 refine GoP.qN rfl (ps_move rfl rfl) ?_
 refine GoP.qN rfl (ps_move rfl rfl) ?_
 refine GoP.qN rfl (ps_move rfl rfl) ?_
 have c14 := ck_l H; replace H := ck_r H
 refine GoP.qN rfl (ps_indexAddr0 rfl rfl c14 rfl) ?_
 refine GoP.qN rfl (ps_move rfl rfl) ?_
 refine GoP.qN rfl (ps_move rfl rfl) ?_
 have c15 := ck_l H; replace H := ck_r H
 refine GoP.qN rfl (ps_indexAddr0N rfl rfl c15 rfl) ?_
 apply GoP.fork0
 exact rfl
 exact rfl
 exact trivial
 exact trivial
 exact Eff.pure (H1 := [.one βp0 43 3 (row l3)]) (ps_loadAg rfl At.p0 At.p0 (idx_lt c14) rfl rfl)
 exact Eff.pure (H1 := [.one βp0 43 3 (row l3)]) (ps_loadAg rfl At.p0 At.p0 c15 rfl rfl)
 exact (Take.nil _)
 exact (Take.nil _)
 intro hQ
 rintro _ rfl
 refine GoP.oneN rfl (ps_loadAg rfl At.p0 At.p0 c15 rfl rfl) (Take.nil _) ?_
 refine GoP.qN rfl (ps_indexAddr0N rfl rfl c15 rfl) ?_
 refine GoP.one1 rfl trivial (ef_storeAg rfl rfl At.p0 (upd_rowN (v := (l3.getD x5.toNat El.d)) ⟨⟨⟨trivial, rfl⟩, rfl⟩, rfl⟩) c15 rfl) (Take.cons _ _ _ _ _ Rem.p0 (Take.nil _)) ?_
 refine GoP.qN rfl (ps_indexAddr0 rfl rfl c14 rfl) ?_
 refine GoP.one1 rfl trivial (ef_storeAg rfl rfl At.p0 (upd_rowN (v := (l3.getD n4 El.d)) ⟨⟨⟨trivial, rfl⟩, rfl⟩, rfl⟩) (lt_len (idx_lt c14) (by first | rfl | omega | (simp only [row_len, List.length_set] <;> first | rfl | omega))) rfl) (Take.cons _ _ _ _ _ Rem.p0 (Take.nil _)) ?_
 exact GoP.done (hQ)
 intro hQ
 rintro _ rfl
 refine GoP.oneN rfl (ps_loadAg rfl At.p0 At.p0 (idx_lt c14) rfl rfl) (Take.nil _) ?_
 refine GoP.qN rfl (ps_indexAddr0N rfl rfl c15 rfl) ?_
 refine GoP.one1 rfl trivial (ef_storeAg rfl rfl At.p0 (upd_rowN (v := (l3.getD x5.toNat El.d)) ⟨⟨⟨trivial, rfl⟩, rfl⟩, rfl⟩) c15 rfl) (Take.cons _ _ _ _ _ Rem.p0 (Take.nil _)) ?_
 refine GoP.qN rfl (ps_indexAddr0 rfl rfl c14 rfl) ?_
 refine GoP.one1 rfl trivial (ef_storeAg rfl rfl At.p0 (upd_rowN (v := (l3.getD n4 El.d)) ⟨⟨⟨trivial, rfl⟩, rfl⟩, rfl⟩) (lt_len (idx_lt c14) (by first | rfl | omega | (simp only [row_len, List.length_set] <;> first | rfl | omega))) rfl) (Take.cons _ _ _ _ _ Rem.p0 (Take.nil _)) ?_
 refine GoP.done (GoK.le ?_ (hQ))
 refine Le.ofDW ?_ (TkD.cons _ _ _ _ _ Rem.p0 (HLe.refl _) (TkD.nil _))
 repeat (first | exact EnvLeW.nil | refine EnvLeW.cons rfl ?_ | refine EnvLeW.skip rfl ?_)
 refine GoK.blk ?_
 refine GoK.code ?_
 refine GoC.region ?_
 refine GoO.pure (ps_move rfl rfl) ?_
 have c16 := ck_l H; replace H := ck_r H
 refine GoO.pure (ps_add rfl rfl rfl c16) ?_
 refine GoO.pure (ps_move rfl rfl) ?_
 have c17 := ck_l H; replace H := ck_r H
 refine GoO.pure (ps_sub rfl rfl rfl c17) ?_
 refine GoO.pure (ps_assign rfl rfl) ?_
 refine GoO.pure (ps_assign rfl rfl) ?_
 refine GoO.nil ?_
 obtain rfl := Option.some.inj H
 exact GoK.againJ m12' (by omega) ⟨_, _, _, hF7, rfl, rfl⟩ (EnvD.cons rfl (DLe.len (by first | rfl | omega | (simp only [row_len, List.length_set] <;> first | rfl | omega))) (EnvD.eq rfl (EnvD.eq rfl (EnvD.nil)))) (TkD.cons _ _ _ _ _ Rem.p0 (HLe.refl _) (TkD.nil _))
 replace H := ite_f h13 H
 refine GoC.exit rfl ?_
 obtain rfl := Option.some.inj H
 obtain rfl := Option.some.inj hF7
 exact GoK.meet ⟨_, _, _, rfl, rfl, rfl⟩ (EnvD.nil) (TkD.cons _ _ _ _ _ Rem.p0 (HLe.refl _) (TkD.nil _))
 rintro v h ⟨l9, n10, x11, rfl, rfl, rfl⟩
 have H := HK6; clear HK6
 obtain rfl := Option.some.inj H
 exact GoK.retL (ds := []) Try.results29 (ResL.nil) (Take.cons _ _ _ _ _ Rem.p0 (Take.nil _)) ⟨rfl, rfl⟩

def slices_Equal_int_B1 (s1_ : (List Int)) (s2_ : (List Int)) : Nat → Unit → Option (Ct (Unit) (Bool)) := fun k7 _ =>
 ck (k7 < s2_.length) <|
 if (s1_.getD k7 (0 : Int)) ≠ (s2_.getD k7 (0 : Int)) then
  some (.ret false)
 else
  some (.go ())
def slices_Equal_int_F (s1_ : (List Int)) (s2_ : (List Int)) : Option (Bool) :=
 if ((s1_.length : Nat) : Int) ≠ ((s2_.length : Nat) : Int) then
  some false
 else
  (forC (slices_Equal_int_B1 s1_ s2_) s1_.length 0 ()).bind fun q => match q with
  | .go _ =>
   some true
  | .ret x => some x
def slices_Equal_int_P (out : Bool) (d : D) (H : List HL) : Prop := d = .v (.bool out) ∧ H = []
theorem slices_Equal_int_I (out : Bool) : IndepP (slices_Equal_int_P out) := IndepP.of (by rintro _ _ ⟨rfl, rfl⟩; exact ⟨inferInstance, inferInstance⟩)
set_option maxRecDepth 100000 in
set_option maxHeartbeats 4000000 in
theorem slices_Equal_int_spec (s1_ : (List Int)) (s2_ : (List Int)) {out : Bool} (H : slices_Equal_int_F s1_ s2_ = some out) : Does Try.prog 31 [slD s1_, slD s2_] [] (slices_Equal_int_P out) := by
 unfold slices_Equal_int_F at H
 refine Does.intro Try.func31 rfl Try.ntmps31 rfl fun w0 I0 => ?_
 refine GoC.seq ?_
 refine GoC.region ?_
 refine GoO.pure (ps_assign rfl rfl) ?_
 refine GoO.nil ?_
 refine GoK.code ?_
 refine GoC.seq ?_
 refine GoC.seq ?_
 refine GoC.region ?_
 refine GoO.pure (ps_move rfl rfl) ?_
 refine GoO.pure (ps_len rfl (by constructor) rfl) ?_
 refine GoO.lenLe (n := s1_.length) (x := .tmp 6) rfl (by constructor) sl_lenLe (fun ml1 => ?_)
 refine GoO.pure (ps_move rfl rfl) ?_
 refine GoO.pure (ps_len rfl (by constructor) rfl) ?_
 refine GoO.lenLe (n := s2_.length) (x := .tmp 8) rfl (by constructor) sl_lenLe (fun ml2 => ?_)
 refine GoO.pure (ps_neq rfl rfl rfl) ?_
 refine GoO.nil ?_
 refine GoK.code ?_
 refine GoC.condD rfl (fun h3 => ?_) (fun h3 => ?_)
 replace H := ite_t h3 H
 refine GoC.seq ?_
 refine GoC.region ?_
 refine GoO.pure (ps_assign rfl rfl) ?_
 refine GoO.nil ?_
 refine GoK.code ?_
 obtain rfl := Option.some.inj H
 exact GoC.retL (ds := [.v (.bool false)]) Try.results31 (ResL.cons (ResD.tmp rfl) (ResL.nil)) (Take.nil _) ⟨rfl, rfl⟩
 replace H := ite_f h3 H
 refine GoC.skip ?_
 refine GoK.code ?_
 refine GoC.seq ?_
 refine GoC.seq ?_
 refine GoC.region ?_
 refine GoO.pure (ps_move rfl rfl) ?_
 refine GoO.pure (ps_len rfl (by constructor) rfl) ?_
 refine GoO.pure (ps_move rfl rfl) ?_
 refine GoO.nil ?_
 refine GoK.code ?_
 have hb := bind_l H; clear H
 obtain ⟨q6, hl11, HK4⟩ := hb
 refine GoC.blockJ [] [] (fun v h => q6 = .go () ∧ v = [] ∧ h = []) ?_ ?_
 refine GoC.loopJ [(0, _), (1, _), (12, _)] [] (fun mQ v h => ∃ (k7 : Nat), (k7 + mQ = s1_.length ∧ forC (slices_Equal_int_B1 s1_ s2_) mQ k7 () = some q6) ∧ v = [(13, .v (.int .i64 ((k7 : Nat) : Int)))] ∧ h = []) s1_.length ⟨_, ⟨by omega, hl11⟩, rfl, rfl⟩ (EnvD.eq rfl (EnvD.eq rfl (EnvD.eq rfl (EnvD.eq rfl (EnvD.nil))))) (TkD.nil _) ?_
 rintro m8 v h ⟨k7, ⟨hkk7, hF5⟩, rfl, rfl⟩
 refine GoC.seq ?_
 refine GoC.region ?_
 refine GoO.pure (ps_lss rfl rfl rfl) ?_
 refine GoO.nil ?_
 refine GoK.code ?_
 refine GoC.seq ?_
 refine GoC.condD rfl (fun (hk7 : (k7 : Int) < ((s1_.length : Nat) : Int)) => ?_) (fun (hk7 : ¬ (k7 : Int) < ((s1_.length : Nat) : Int)) => ?_)
 obtain ⟨m8', rfl⟩ : ∃ x, m8 = x + 1 := ⟨m8 - 1, by omega⟩
 have hb := bind_l hF5; clear hF5
 obtain ⟨qrm8, H, hF5⟩ := hb
 have hnk7 : k7 < s1_.length := by omega
 have hIk7 : InI ((k7 : Int) + 1) := inI_len hk7 ml1
 refine GoC.skip ?_
 refine GoK.code ?_
 refine GoC.seq ?_
 refine GoC.block ?_
 refine GoC.seq ?_
 refine GoC.region ?_
 refine GoO.pure (ps_move rfl rfl) ?_
 refine GoO.pure (ps_assign rfl rfl) ?_
 refine GoO.nil ?_
 refine GoK.code ?_
 refine GoC.seq ?_
 refine GoC.drawA (.q 0 (.q 1 (.q 2 (.q 3 (.q 4 (.q 5 (.q 6 (.q 7 (.q 8 (.done)))))))))) follows (by kernel_rfl) ?_
 refine GoP.qN rfl (ps_move rfl rfl) ?_
 refine GoP.qN rfl (ps_move rfl rfl) ?_
 refine GoP.qN rfl (ps_indexAddrRN rfl rfl hnk7 rfl) ?_
 refine GoP.qN rfl (ps_loadR rfl hnk7 rfl rfl) ?_
 refine GoP.qN rfl (ps_move rfl rfl) ?_
 refine GoP.qN rfl (ps_move rfl rfl) ?_
 have c9 := ck_l H; replace H := ck_r H
 refine GoP.qN rfl (ps_indexAddrRN rfl rfl c9 rfl) ?_
 refine GoP.qN rfl (ps_loadR rfl c9 rfl rfl) ?_
 refine GoP.qN rfl (ps_neq rfl rfl rfl) ?_
 refine GoP.done ?_
 refine GoK.code ?_
 refine GoC.condD rfl (fun h10 => ?_) (fun h10 => ?_)
 replace H := ite_t h10 H
 refine GoC.seq ?_
 refine GoC.region ?_
 refine GoO.pure (ps_assign rfl rfl) ?_
 refine GoO.nil ?_
 refine GoK.code ?_
 obtain rfl := Option.some.inj H
 obtain rfl := Option.some.inj hF5
 obtain rfl := Option.some.inj HK4
 exact GoC.retL (ds := [.v (.bool false)]) Try.results31 (ResL.cons (ResD.tmp rfl) (ResL.nil)) (Take.nil _) ⟨rfl, rfl⟩
 replace H := ite_f h10 H
 refine GoC.skip ?_
 refine GoK.blk ?_
 refine GoK.code ?_
 refine GoC.region ?_
 refine GoO.pure (ps_add rfl rfl rfl hIk7) ?_
 refine GoO.pure (ps_move rfl rfl) ?_
 refine GoO.nil ?_
 obtain rfl := Option.some.inj H
 exact GoK.againJ m8' (by omega) ⟨_, ⟨by omega, hF5⟩, rfl, rfl⟩ (EnvD.eq rfl (EnvD.eq rfl (EnvD.eq rfl (EnvD.eq rfl (EnvD.nil))))) (TkD.nil _)
 obtain rfl : m8 = 0 := by omega
 refine GoC.exit rfl ?_
 cases hF5
 exact GoK.meet ⟨rfl, rfl, rfl⟩ (EnvD.nil) (TkD.nil _)
 rintro v h ⟨rfl, rfl, rfl⟩
 have H := HK4; clear HK4
 refine GoK.code ?_
 refine GoC.seq ?_
 refine GoC.region ?_
 refine GoO.pure (ps_assign rfl rfl) ?_
 refine GoO.nil ?_
 refine GoK.code ?_
 obtain rfl := Option.some.inj H
 exact GoC.retL (ds := [.v (.bool true)]) Try.results31 (ResL.cons (ResD.tmp rfl) (ResL.nil)) (Take.nil _) ⟨rfl, rfl⟩

end Go.Proofs.Ytblhoelmodbifaa
