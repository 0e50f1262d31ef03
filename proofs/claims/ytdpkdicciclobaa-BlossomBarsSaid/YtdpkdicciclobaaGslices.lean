/- The functions slices.Grow.Arc, slices.Concat.Arc, slices.Clone.Arc, bits.Mul32, bits.Mul64, bits.Mul, slices.Repeat.int, told as plain functions, and that the code does as they say. -/
import Derived.Test.YtdpkdicciclobaaTys
import Derived.Test.YtdpkdicciclobaaDat
namespace Go.Proofs.Ytdpkdicciclobaa
open Go Go.Proofs.Ytdpkdicciclobaa.Sx
set_option linter.unusedVariables false
set_option linter.unusedSimpArgs false
def slices_Grow_Arc_F (n_ : Int) : Option ((List Arc)) :=
 ((
  if n_ < 0 then
   none
  else
   some ()) : Option (Unit)).bind fun () =>
 ck (InI (0 - 0)) <|
 ck (InI (n_ - (0 - 0))) <|
 if 0 < (n_ - (0 - 0)) then
  ck (1 ≤ (n_ - (0 - 0)) ∧ (n_ - (0 - 0)) ≤ 10000000000) <|
  some (subl (List.replicate ((n_ - (0 - 0)).toNat) El.d) 0 0)
 else
  some []
def slices_Grow_Arc_P (out : (List Arc)) (d : D) (H : List HL) : Prop := ∃ β1 : BK, d = .own β1 3 0 out.length ∧ H = [.one β1 39 3 (row out)]
theorem slices_Grow_Arc_I (out : (List Arc)) : IndepP (slices_Grow_Arc_P out) := IndepP.of (by rintro _ _ ⟨β1, rfl, rfl⟩; exact ⟨inferInstance, inferInstance⟩)
set_option maxRecDepth 100000 in
set_option maxHeartbeats 4000000 in
theorem slices_Grow_Arc_spec (n_ : Int) {out : (List Arc)} (H : slices_Grow_Arc_F n_ = some out) : Does Try.prog 83 [.v (.slice none 0 0), .v (.int .i64 n_)] [] (slices_Grow_Arc_P out) := by
 unfold slices_Grow_Arc_F at H
 refine Does.intro Try.func83 rfl Try.ntmps83 rfl fun w0 I0 => ?_
 refine GoC.seq ?_
 refine GoC.region ?_
 refine GoO.pure (ps_assign rfl rfl) ?_
 refine GoO.nil ?_
 refine GoK.code ?_
 have hb := bind_l H; clear H
 obtain ⟨⟨⟩, H, HK1⟩ := hb
 refine GoC.seqJ [(0, .v (.slice none 0 0)), (1, .v (.int .i64 n_))] [] (fun v h => v = [] ∧ h = []) ?_ ?_
 refine GoC.seq ?_
 refine GoC.region ?_
 refine GoO.pure (ps_move rfl rfl) ?_
 refine GoO.pure (ps_lss rfl rfl rfl) ?_
 refine GoO.nil ?_
 refine GoK.code ?_
 refine GoC.condD rfl (fun h3 => ?_) (fun h3 => ?_)
 replace H := ite_t h3 H
 cases H
 replace H := ite_f h3 H
 refine GoC.skip ?_
 cases H
 exact GoK.meet ⟨rfl, rfl⟩ (EnvD.eq rfl (EnvD.eq rfl (EnvD.nil))) (TkD.nil _)
 rintro v h ⟨rfl, rfl⟩
 have H := HK1; clear HK1
 refine GoC.seq ?_
 refine GoC.seq ?_
 refine GoC.region ?_
 refine GoO.pure (ps_move rfl rfl) ?_
 refine GoO.pure (ps_move rfl rfl) ?_
 refine GoO.pure (ps_capNil rfl rfl) ?_
 refine GoO.pure (ps_move rfl rfl) ?_
 refine GoO.pure (ps_len rfl (by constructor) rfl) ?_
 have c4 := ck_l H; replace H := ck_r H
 refine GoO.pure (ps_sub rfl rfl rfl c4) ?_
 have c5 := ck_l H; replace H := ck_r H
 refine GoO.pure (ps_sub rfl rfl rfl c5) ?_
 refine GoO.pure (ps_assign rfl rfl) ?_
 refine GoO.nil ?_
 refine GoK.code ?_
 refine GoC.seq ?_
 refine GoC.region ?_
 refine GoO.pure (ps_move rfl rfl) ?_
 refine GoO.pure (ps_gtr rfl rfl rfl) ?_
 refine GoO.nil ?_
 refine GoK.code ?_
 refine GoC.condD rfl (fun h6 => ?_) (fun h6 => ?_)
 replace H := ite_t h6 H
 refine GoC.region ?_
 refine GoO.pure (ps_move rfl rfl) ?_
 refine GoO.pure (ps_move rfl rfl) ?_
 refine GoO.pure (ps_capNil rfl rfl) ?_
 refine GoO.pure (ps_sliceNil rfl rfl rfl) ?_
 refine GoO.pure (ps_move rfl rfl) ?_
 have c8 := ck_l H; replace H := ck_r H
 refine GoO.effB (ef_appendZ rfl rfl c8 rfl rfl rfl) (fun β7 => ?_)
 refine GoO.le (Le.reH At.p0 (HLe.zeros (α := Arc) ⟨⟨⟨trivial, DLe.refl _⟩, DLe.refl _⟩, DLe.refl _⟩)) ?_
 refine GoO.pure (ps_move rfl rfl) ?_
 refine GoO.pure (ps_len rfl (by constructor) rfl) ?_
 refine GoO.pure (ps_slice rfl (Bd.no _) (Bd.nat _ _ 0 _ rfl) (Nat.zero_le _) (Nat.zero_le _) rfl) ?_
 refine GoO.le (Le.shift At.p0 (by first | omega | (simp only [subl_length, cpl_length, List.length_set, List.length_append, List.length_cons, List.length_nil, List.length_replicate, row_len]; omega) | (simp only [subl_length, cpl_length, List.length_set, List.length_append, List.length_cons, List.length_nil, List.length_replicate, row_len, eldI]; omega))) ?_
 refine GoO.le (Le.reH At.p0 (HLe.part (xs := (List.replicate ((n_ - (0 - 0)).toNat) El.d)) (r := 0 + 0) (len := 0) (by first | omega | (simp only [subl_length, cpl_length, List.length_set, List.length_append, List.length_cons, List.length_nil, List.length_replicate, row_len]; omega)))) ?_
 generalize (⟨β7.b, β7.o + (0 + 0) * 3, β7.s - (0 + 0)⟩ : BK) = β9
 refine GoO.pure (ps_assign rfl rfl) ?_
 refine GoO.nil ?_
 refine GoK.code ?_
 refine GoC.seq ?_
 refine GoC.region ?_
 refine GoO.pure (ps_move rfl rfl) ?_
 refine GoO.pure (ps_assign rfl rfl) ?_
 refine GoO.nil ?_
 refine GoK.code ?_
 obtain rfl := Option.some.inj H
 exact GoC.retL (ds := [.own β9 3 0 (subl (List.replicate ((n_ - (0 - 0)).toNat) El.d) 0 0).length]) Try.results83 (ResL.cons (ResD.le (ResD.tmp rfl) (by exact DLe.len (by first | rfl | omega | (simp only [row_len, gridC_len, rowO_len, List.length_replicate, subl_length] <;> first | rfl | omega)))) (ResL.nil)) (Take.cons _ _ _ _ _ Rem.p0 (Take.nil _)) ⟨β9, rfl, rfl⟩
 replace H := ite_f h6 H
 refine GoC.skip ?_
 refine GoK.code ?_
 refine GoC.seq ?_
 refine GoC.region ?_
 refine GoO.pure (ps_move rfl rfl) ?_
 refine GoO.pure (ps_assign rfl rfl) ?_
 refine GoO.nil ?_
 refine GoK.code ?_
 obtain rfl := Option.some.inj H
 refine GoC.le (le_row0 39 3 (row ([] : List Arc)) rfl) ?_
 exact GoC.retL (ds := [.own ⟨0, 0, 0⟩ 3 0 0]) Try.results83 (ResL.cons (ResD.le (ResD.tmp rfl) (by exact DLe.nilOwn)) (ResL.nil)) (Take.cons _ _ _ _ _ Rem.p0 (Take.nil _)) ⟨⟨0, 0, 0⟩, rfl, rfl⟩

def slices_Concat_Arc_B1 (ss_ : (List (List Arc))) : Nat → Nat → Option (Nat) := fun k7 n2 =>
 ck (InI (((n2 : Nat) : Int) + (((ss_.getD k7 []).length : Nat) : Int))) <|
 if (((n2 + (ss_.getD k7 []).length) : Nat) : Int) < 0 then
  none
 else
  some (n2 + (ss_.getD k7 []).length)
def slices_Concat_Arc_B2 (ss_ : (List (List Arc))) : Nat → (List Arc) → Option ((List Arc)) := fun k22 l17 =>
 ck (l17.length + (ss_.getD k22 []).length ≤ 5864062014805) <|
 some (l17 ++ (ss_.getD k22 []))
def slices_Concat_Arc_F (ss_ : (List (List Arc))) : Option ((List Arc)) :=
 (forN (slices_Concat_Arc_B1 ss_) ss_.length 0 0).bind fun n6 =>
 (slices_Grow_Arc_F ((n6 : Nat) : Int)).bind fun r13 =>
 (forN (slices_Concat_Arc_B2 ss_) ss_.length 0 r13).bind fun l21 =>
 some l21
def slices_Concat_Arc_P (out : (List Arc)) (d : D) (H : List HL) : Prop := ∃ β1 : BK, d = .own β1 3 0 out.length ∧ H = [.one β1 39 3 (row out)]
theorem slices_Concat_Arc_I (out : (List Arc)) : IndepP (slices_Concat_Arc_P out) := IndepP.of (by rintro _ _ ⟨β1, rfl, rfl⟩; exact ⟨inferInstance, inferInstance⟩)
set_option maxRecDepth 100000 in
set_option maxHeartbeats 4000000 in
theorem slices_Concat_Arc_spec (ss_ : (List (List Arc))) {out : (List Arc)} (H : slices_Concat_Arc_F ss_ = some out) : Does Try.prog 52 [slD ss_] [] (slices_Concat_Arc_P out) := by
 unfold slices_Concat_Arc_F at H
 refine Does.intro Try.func52 rfl Try.ntmps52 rfl fun w0 I0 => ?_
 refine GoC.seq ?_
 refine GoC.region ?_
 refine GoO.pure (ps_assign rfl rfl) ?_
 refine GoO.nil ?_
 refine GoK.code ?_
 refine GoC.seq ?_
 refine GoC.region ?_
 refine GoO.pure (ps_assign rfl rfl) ?_
 refine GoO.nil ?_
 refine GoK.code ?_
 refine GoC.seq ?_
 refine GoC.seq ?_
 refine GoC.region ?_
 refine GoO.pure (ps_move rfl rfl) ?_
 refine GoO.pure (ps_len rfl (by constructor) rfl) ?_
 refine GoO.lenLe (n := ss_.length) (x := .tmp 9) rfl (by constructor) sl_lenLe (fun ml1 => ?_)
 refine GoO.pure (ps_move rfl rfl) ?_
 refine GoO.nil ?_
 refine GoK.code ?_
 have hb := bind_l H; clear H
 obtain ⟨n6, hl12, HK3⟩ := hb
 refine GoC.blockJ [(0, slD ss_)] [] (fun v h => v = [(3, .v (.int .i64 ((n6 : Nat) : Int)))] ∧ h = []) ?_ ?_
 refine GoC.loopJ [(0, _), (9, _), (10, _)] [] (fun mQ v h => ∃ (k7 : Nat) (n2 : Nat), (k7 + mQ = ss_.length ∧ forN (slices_Concat_Arc_B1 ss_) mQ k7 n2 = some n6) ∧ v = [(11, .v (.int .i64 ((k7 : Nat) : Int))), (3, .v (.int .i64 ((n2 : Nat) : Int)))] ∧ h = []) ss_.length ⟨_, _, ⟨by omega, hl12⟩, rfl, rfl⟩ (EnvD.eq rfl (EnvD.eq rfl (EnvD.eq rfl (EnvD.eq rfl (EnvD.eq rfl (EnvD.nil)))))) (TkD.nil _) ?_
 rintro m8 v h ⟨k7, n2, ⟨hkk7, hF4⟩, rfl, rfl⟩
 refine GoC.seq ?_
 refine GoC.region ?_
 refine GoO.pure (ps_lss rfl rfl rfl) ?_
 refine GoO.nil ?_
 refine GoK.code ?_
 refine GoC.seq ?_
 refine GoC.condD rfl (fun (hk7 : (k7 : Int) < ((ss_.length : Nat) : Int)) => ?_) (fun (hk7 : ¬ (k7 : Int) < ((ss_.length : Nat) : Int)) => ?_)
 obtain ⟨m8', rfl⟩ : ∃ x, m8 = x + 1 := ⟨m8 - 1, by omega⟩
 have hb := bind_l hF4; clear hF4
 obtain ⟨qrm8, H, hF4⟩ := hb
 have hnk7 : k7 < ss_.length := by omega
 have hIk7 : InI ((k7 : Int) + 1) := inI_len hk7 ml1
 refine GoC.skip ?_
 refine GoK.code ?_
 refine GoC.seq ?_
 refine GoC.block ?_
 refine GoC.seq ?_
 refine GoC.region ?_
 refine GoO.pure (ps_indexAddrRN rfl rfl hnk7 rfl) ?_
 refine GoO.pure (ps_loadR rfl hnk7 rfl rfl) ?_
 refine GoO.pure (ps_assign rfl rfl) ?_
 refine GoO.nil ?_
 refine GoK.code ?_
 refine GoC.seq ?_
 refine GoC.region ?_
 refine GoO.pure (ps_move rfl rfl) ?_
 refine GoO.pure (ps_move rfl rfl) ?_
 refine GoO.pure (ps_len rfl (by constructor) rfl) ?_
 refine GoO.lenLe (n := (ss_.getD k7 []).length) (x := .tmp 16) rfl (by constructor) sl_lenLe (fun ml9 => ?_)
 have c10 := ck_l H; replace H := ck_r H
 refine GoO.pure (ps_add rfl rfl rfl c10) ?_
 refine GoO.pure (ps_assign rfl rfl) ?_
 refine GoO.nil ?_
 refine GoK.code ?_
 refine GoC.seq ?_
 refine GoC.region ?_
 refine GoO.pure (ps_move rfl rfl) ?_
 refine GoO.pure (ps_lss rfl rfl rfl) ?_
 refine GoO.nil ?_
 refine GoK.code ?_
 refine GoC.condD rfl (fun h11 => ?_) (fun h11 => ?_)
 replace H := ite_t h11 H
 cases H
 replace H := ite_f h11 H
 refine GoC.skip ?_
 refine GoK.blk ?_
 refine GoK.code ?_
 refine GoC.region ?_
 refine GoO.pure (ps_add rfl rfl rfl hIk7) ?_
 refine GoO.pure (ps_move rfl rfl) ?_
 refine GoO.nil ?_
 obtain rfl := Option.some.inj H
 exact GoK.againJ m8' (by omega) ⟨_, _, ⟨by omega, hF4⟩, rfl, rfl⟩ (EnvD.eq rfl (EnvD.eq rfl (EnvD.eq rfl (EnvD.eq rfl (EnvD.eq rfl (EnvD.nil)))))) (TkD.nil _)
 obtain rfl : m8 = 0 := by omega
 refine GoC.exit rfl ?_
 cases hF4
 exact GoK.meet ⟨rfl, rfl⟩ (EnvD.eq rfl (EnvD.eq rfl (EnvD.nil))) (TkD.nil _)
 rintro v h ⟨rfl, rfl⟩
 have H := HK3; clear HK3
 refine GoK.code ?_
 refine GoC.seq ?_
 refine GoC.region ?_
 refine GoO.pure (ps_move rfl rfl) ?_
 have hb := bind_l H; clear H
 obtain ⟨r13, e15, H⟩ := hb
 refine GoO.effC (ef_call rfl (Take.nil _) (Take.nil _) (slices_Grow_Arc_spec ((n6 : Nat) : Int) e15) (LendL.cons (Lend.refl _ _) (LendL.cons (Lend.refl _ _) (LendL.nil))) rfl (slices_Grow_Arc_I (r13))) (fun rr HH hp => ?_)
 obtain ⟨β14, rfl, rfl⟩ := hp
 refine GoO.pure (ps_assign rfl rfl) ?_
 refine GoO.nil ?_
 refine GoK.code ?_
 refine GoC.seq ?_
 refine GoC.seq ?_
 refine GoC.region ?_
 refine GoO.pure (ps_move rfl rfl) ?_
 refine GoO.pure (ps_len rfl (by constructor) rfl) ?_
 refine GoO.pure (ps_move rfl rfl) ?_
 refine GoO.nil ?_
 refine GoK.code ?_
 have hb := bind_l H; clear H
 obtain ⟨l21, hl26, HK18⟩ := hb
 refine GoC.blockJ [] [] (fun v h => ∃ (β16 : BK), v = [(6, .own β16 3 0 l21.length)] ∧ h = [.one β16 39 3 (row l21)]) ?_ ?_
 refine GoC.loopJ [(25, _), (26, _)] [] (fun mQ v h => ∃ (k22 : Nat) (l17 : (List Arc)) (β16 : BK), (k22 + mQ = ss_.length ∧ forN (slices_Concat_Arc_B2 ss_) mQ k22 l17 = some l21) ∧ v = [(27, .v (.int .i64 ((k22 : Nat) : Int))), (6, .own β16 3 0 l17.length)] ∧ h = [.one β16 39 3 (row l17)]) ss_.length ⟨_, _, β14, ⟨by omega, hl26⟩, rfl, rfl⟩ (EnvD.eq rfl (EnvD.cons rfl (DLe.len (by first | rfl | omega | (simp only [row_len, gridC_len, rowO_len] <;> first | rfl | omega))) (EnvD.eq rfl (EnvD.eq rfl (EnvD.nil))))) (TkD.cons _ _ _ _ _ Rem.p0 (HLe.refl _) (TkD.nil _)) ?_
 rintro m23 v h ⟨k22, l17, β16, ⟨hkk22, hF19⟩, rfl, rfl⟩
 refine GoC.seq ?_
 refine GoC.region ?_
 refine GoO.pure (ps_lss rfl rfl rfl) ?_
 refine GoO.nil ?_
 refine GoK.code ?_
 refine GoC.seq ?_
 refine GoC.condD rfl (fun (hk22 : (k22 : Int) < ((ss_.length : Nat) : Int)) => ?_) (fun (hk22 : ¬ (k22 : Int) < ((ss_.length : Nat) : Int)) => ?_)
 obtain ⟨m23', rfl⟩ : ∃ x, m23 = x + 1 := ⟨m23 - 1, by omega⟩
 have hb := bind_l hF19; clear hF19
 obtain ⟨qrm23, H, hF19⟩ := hb
 have hnk22 : k22 < ss_.length := by omega
 have hIk22 : InI ((k22 : Int) + 1) := inI_len hk22 ml1
 refine GoC.skip ?_
 refine GoK.code ?_
 refine GoC.seq ?_
 refine GoC.block ?_
 refine GoC.seq ?_
 refine GoC.region ?_
 refine GoO.pure (ps_indexAddrRN rfl rfl hnk22 rfl) ?_
 refine GoO.pure (ps_loadR rfl hnk22 rfl rfl) ?_
 refine GoO.pure (ps_assign rfl rfl) ?_
 refine GoO.nil ?_
 refine GoK.code ?_
 refine GoC.region ?_
 refine GoO.pure (ps_move rfl rfl) ?_
 refine GoO.pure (ps_move rfl rfl) ?_
 have c25 := ck_l H; replace H := ck_r H
 refine GoO.effB (ef_append rfl rfl Rem.p0 Src.sl (cat_row (α := Arc) (by first | rfl | omega | (simp only [subl_length, cpl_length, List.length_set, List.length_append, List.length_cons, List.length_nil, List.length_replicate, row_len] <;> first | rfl | omega)) (by first | rfl | omega | (simp only [subl_length, cpl_length, List.length_set, List.length_append, List.length_cons, List.length_nil, List.length_replicate, row_len] <;> first | rfl | omega)) (fun _ _ _ _ => rfl)) (by first | omega | (simp only [subl_length, cpl_length, List.length_set, List.length_append, List.length_cons, List.length_nil, List.length_replicate, row_len]; omega) | (simp only [subl_length, cpl_length, List.length_set, List.length_append, List.length_cons, List.length_nil, List.length_replicate, row_len]; done)) (app_le c25 rfl) rfl rfl rfl) (fun β24 => ?_)
 refine GoO.pure (ps_assign rfl rfl) ?_
 refine GoO.nil ?_
 refine GoK.blk ?_
 refine GoK.code ?_
 refine GoC.region ?_
 refine GoO.pure (ps_add rfl rfl rfl hIk22) ?_
 refine GoO.pure (ps_move rfl rfl) ?_
 refine GoO.nil ?_
 obtain rfl := Option.some.inj H
 exact GoK.againJ m23' (by omega) ⟨_, _, β24, ⟨by omega, hF19⟩, rfl, rfl⟩ (EnvD.eq rfl (EnvD.cons rfl (DLe.len (by first | rfl | omega | (simp only [row_len, gridC_len, rowO_len, List.length_append, List.length_cons, List.length_nil, List.length_nil] <;> first | rfl | omega))) (EnvD.eq rfl (EnvD.eq rfl (EnvD.nil))))) (TkD.cons _ _ _ _ _ Rem.p0 (HLe.refl _) (TkD.nil _))
 obtain rfl : m23 = 0 := by omega
 refine GoC.exit rfl ?_
 cases hF19
 exact GoK.meet ⟨β16, rfl, rfl⟩ (EnvD.cons rfl (DLe.len (by first | rfl | omega | (simp only [row_len, gridC_len, rowO_len] <;> first | rfl | omega))) (EnvD.nil)) (TkD.cons _ _ _ _ _ Rem.p0 (HLe.refl _) (TkD.nil _))
 rintro v h ⟨β16, rfl, rfl⟩
 have H := HK18; clear HK18
 refine GoK.code ?_
 refine GoC.seq ?_
 refine GoC.region ?_
 refine GoO.pure (ps_move rfl rfl) ?_
 refine GoO.pure (ps_assign rfl rfl) ?_
 refine GoO.nil ?_
 refine GoK.code ?_
 obtain rfl := Option.some.inj H
 exact GoC.retL (ds := [.own β16 3 0 l21.length]) Try.results52 (ResL.cons (ResD.tmp rfl) (ResL.nil)) (Take.cons _ _ _ _ _ Rem.p0 (Take.nil _)) ⟨β16, rfl, rfl⟩

def slices_Clone_Arc_F (s_ : (List Arc)) : Option ((List Arc)) :=
 ck (0 + s_.length ≤ 5864062014805) <|
 some (([] : List Arc) ++ s_)
def slices_Clone_Arc_P (out : (List Arc)) (d : D) (H : List HL) : Prop := ∃ β1 : BK, d = .own β1 3 0 out.length ∧ H = [.one β1 39 3 (row out)]
theorem slices_Clone_Arc_I (out : (List Arc)) : IndepP (slices_Clone_Arc_P out) := IndepP.of (by rintro _ _ ⟨β1, rfl, rfl⟩; exact ⟨inferInstance, inferInstance⟩)
set_option maxRecDepth 100000 in
set_option maxHeartbeats 4000000 in
theorem slices_Clone_Arc_spec (s_ : (List Arc)) {out : (List Arc)} (H : slices_Clone_Arc_F s_ = some out) : Does Try.prog 103 [slD s_] [] (slices_Clone_Arc_P out) := by
 unfold slices_Clone_Arc_F at H
 refine Does.intro Try.func103 rfl Try.ntmps103 rfl fun w0 I0 => ?_
 refine GoC.seq ?_
 refine GoC.region ?_
 refine GoO.pure (ps_assign rfl rfl) ?_
 refine GoO.nil ?_
 refine GoK.code ?_
 refine GoC.seq ?_
 refine GoC.seq ?_
 refine GoC.region ?_
 refine GoO.pure (ps_move rfl rfl) ?_
 refine GoO.eff (ef_eqlNil rfl rfl rfl) (fun s2 hs2 => ?_)
 obtain ⟨bn1, hbn1, rfl⟩ := hs2
 refine GoO.nil ?_
 refine GoK.code ?_
 refine GoC.cond rfl (fun h2 => ?_) (fun h2 => ?_)
 have e0 := List.eq_nil_of_length_eq_zero (hbn1 h2); subst e0; replace H := ck_r H
 refine GoC.seq ?_
 refine GoC.region ?_
 refine GoO.pure (ps_assign rfl rfl) ?_
 refine GoO.nil ?_
 refine GoK.code ?_
 obtain rfl := Option.some.inj H
 refine GoC.le (le_row0 39 3 (row ([] : List Arc)) rfl) ?_
 exact GoC.retL (ds := [.own ⟨0, 0, 0⟩ 3 0 0]) Try.results103 (ResL.cons (ResD.le (ResD.tmp rfl) (by exact DLe.nilOwn)) (ResL.nil)) (Take.cons _ _ _ _ _ Rem.p0 (Take.nil _)) ⟨⟨0, 0, 0⟩, rfl, rfl⟩
 refine GoC.skip ?_
 refine GoK.code ?_
 refine GoC.seq ?_
 refine GoC.region ?_
 refine GoO.effB (ef_buildSlice (row (([] : List Arc) : List Arc)) rfl (Parts.nil _) rfl rfl rfl rfl) (fun β3 => ?_)
 refine GoO.pure (ps_move rfl rfl) ?_
 have c5 := ck_l H; replace H := ck_r H
 refine GoO.effB (ef_append rfl rfl Rem.p0 Src.sl (cat_row (α := Arc) (by first | rfl | omega | (simp only [subl_length, cpl_length, List.length_set, List.length_append, List.length_cons, List.length_nil, List.length_replicate, row_len] <;> first | rfl | omega)) (by first | rfl | omega | (simp only [subl_length, cpl_length, List.length_set, List.length_append, List.length_cons, List.length_nil, List.length_replicate, row_len] <;> first | rfl | omega)) (fun _ _ _ _ => rfl)) (by first | omega | (simp only [subl_length, cpl_length, List.length_set, List.length_append, List.length_cons, List.length_nil, List.length_replicate, row_len]; omega) | (simp only [subl_length, cpl_length, List.length_set, List.length_append, List.length_cons, List.length_nil, List.length_replicate, row_len]; done)) (app_le c5 rfl) rfl rfl rfl) (fun β4 => ?_)
 refine GoO.pure (ps_assign rfl rfl) ?_
 refine GoO.nil ?_
 refine GoK.code ?_
 obtain rfl := Option.some.inj H
 exact GoC.retL (ds := [.own β4 3 0 (([] : List Arc) ++ s_).length]) Try.results103 (ResL.cons (ResD.le (ResD.tmp rfl) (by exact DLe.len (by first | rfl | omega | (simp only [row_len, gridC_len, rowO_len, List.length_append, List.length_cons, List.length_nil, List.length_nil] <;> first | rfl | omega)))) (ResL.nil)) (Take.cons _ _ _ _ _ Rem.p0 (Take.nil _)) ⟨β4, rfl, rfl⟩

def bits_Mul32_F (p0 : Int) (p1 : Int) : Option (Int × Int) :=
 some ((IntKind.u32.wrap (Int.fdiv (IntKind.u64.wrap ((IntKind.u64.wrap p0) * (IntKind.u64.wrap p1))) (2 ^ min 32 64))), (IntKind.u32.wrap (IntKind.u64.wrap ((IntKind.u64.wrap p0) * (IntKind.u64.wrap p1)))))
def bits_Mul32_P (out : Int × Int) (d : D) (H : List HL) : Prop := d = .tp 2 (nth [.v (.int .u32 out.1), .v (.int .u32 out.2)]) ∧ H = []
theorem bits_Mul32_I (out : Int × Int) : IndepP (bits_Mul32_P out) := IndepP.of (by rintro _ _ ⟨rfl, rfl⟩; exact ⟨inferInstance, inferInstance⟩)
set_option maxRecDepth 100000 in
set_option maxHeartbeats 4000000 in
theorem bits_Mul32_spec (p0 : Int) (p1 : Int) {out : Int × Int} (H : bits_Mul32_F p0 p1 = some out) : Does Try.prog 122 [.v (.int .u32 p0), .v (.int .u32 p1)] [] (bits_Mul32_P out) := by
 unfold bits_Mul32_F at H
 refine Does.intro Try.func122 rfl Try.ntmps122 rfl fun w0 I0 => ?_
 refine GoC.seq ?_
 refine GoC.region ?_
 refine GoO.pure (ps_assign rfl rfl) ?_
 refine GoO.pure (ps_assign rfl rfl) ?_
 refine GoO.nil ?_
 refine GoK.code ?_
 refine GoC.seq ?_
 refine GoC.region ?_
 refine GoO.pure (ps_move rfl rfl) ?_
 refine GoO.pure (ps_convK rfl rfl) ?_
 refine GoO.pure (ps_move rfl rfl) ?_
 refine GoO.pure (ps_convK rfl rfl) ?_
 refine GoO.pure (ps_mulw rfl rfl rfl) ?_
 refine GoO.pure (ps_assign rfl rfl) ?_
 refine GoO.nil ?_
 refine GoK.code ?_
 refine GoC.seq ?_
 refine GoC.region ?_
 refine GoO.pure (ps_move rfl rfl) ?_
 refine GoO.pure (ps_shr rfl rfl rfl (by decide)) ?_
 refine GoO.pure (ps_convK rfl rfl) ?_
 refine GoO.pure (ps_move rfl rfl) ?_
 refine GoO.pure (ps_convK rfl rfl) ?_
 refine GoO.pure (ps_assign rfl rfl) ?_
 refine GoO.pure (ps_assign rfl rfl) ?_
 refine GoO.nil ?_
 refine GoK.code ?_
 obtain rfl := Option.some.inj H
 exact GoC.retL (ds := [.v (.int .u32 (IntKind.u32.wrap (Int.fdiv (IntKind.u64.wrap ((IntKind.u64.wrap p0) * (IntKind.u64.wrap p1))) (2 ^ min 32 64)))), .v (.int .u32 (IntKind.u32.wrap (IntKind.u64.wrap ((IntKind.u64.wrap p0) * (IntKind.u64.wrap p1)))))]) Try.results122 (ResL.cons (ResD.tmp rfl) (ResL.cons (ResD.tmp rfl) (ResL.nil))) (Take.nil _) ⟨rfl, rfl⟩

def bits_Mul64_F (p0 : Int) (p1 : Int) : Option (Int × Int) :=
 some ((IntKind.u64.wrap ((IntKind.u64.wrap ((IntKind.u64.wrap ((Int.fdiv p0 (2 ^ min 32 64)) * (Int.fdiv p1 (2 ^ min 32 64)))) + (Int.fdiv (IntKind.u64.wrap ((IntKind.u64.wrap ((Int.fdiv p0 (2 ^ min 32 64)) * (bitsOf .and .u64 p1 4294967295))) + (Int.fdiv (IntKind.u64.wrap ((bitsOf .and .u64 p0 4294967295) * (bitsOf .and .u64 p1 4294967295))) (2 ^ min 32 64)))) (2 ^ min 32 64)))) + (Int.fdiv (IntKind.u64.wrap ((bitsOf .and .u64 (IntKind.u64.wrap ((IntKind.u64.wrap ((Int.fdiv p0 (2 ^ min 32 64)) * (bitsOf .and .u64 p1 4294967295))) + (Int.fdiv (IntKind.u64.wrap ((bitsOf .and .u64 p0 4294967295) * (bitsOf .and .u64 p1 4294967295))) (2 ^ min 32 64)))) 4294967295) + (IntKind.u64.wrap ((bitsOf .and .u64 p0 4294967295) * (Int.fdiv p1 (2 ^ min 32 64)))))) (2 ^ min 32 64)))), (IntKind.u64.wrap (p0 * p1)))
def bits_Mul64_P (out : Int × Int) (d : D) (H : List HL) : Prop := d = .tp 2 (nth [.v (.int .u64 out.1), .v (.int .u64 out.2)]) ∧ H = []
theorem bits_Mul64_I (out : Int × Int) : IndepP (bits_Mul64_P out) := IndepP.of (by rintro _ _ ⟨rfl, rfl⟩; exact ⟨inferInstance, inferInstance⟩)
set_option maxRecDepth 100000 in
set_option maxHeartbeats 4000000 in
theorem bits_Mul64_spec (p0 : Int) (p1 : Int) {out : Int × Int} (H : bits_Mul64_F p0 p1 = some out) : Does Try.prog 123 [.v (.int .u64 p0), .v (.int .u64 p1)] [] (bits_Mul64_P out) := by
 unfold bits_Mul64_F at H
 refine Does.intro Try.func123 rfl Try.ntmps123 rfl fun w0 I0 => ?_
 refine GoC.seq ?_
 refine GoC.region ?_
 refine GoO.pure (ps_assign rfl rfl) ?_
 refine GoO.pure (ps_assign rfl rfl) ?_
 refine GoO.nil ?_
 refine GoK.code ?_
 refine GoC.seq ?_
 refine GoC.region ?_
 refine GoO.pure (ps_move rfl rfl) ?_
 refine GoO.pure (ps_and rfl rfl rfl) ?_
 refine GoO.pure (ps_assign rfl rfl) ?_
 refine GoO.nil ?_
 refine GoK.code ?_
 refine GoC.seq ?_
 refine GoC.region ?_
 refine GoO.pure (ps_move rfl rfl) ?_
 refine GoO.pure (ps_shr rfl rfl rfl (by decide)) ?_
 refine GoO.pure (ps_assign rfl rfl) ?_
 refine GoO.nil ?_
 refine GoK.code ?_
 refine GoC.seq ?_
 refine GoC.region ?_
 refine GoO.pure (ps_move rfl rfl) ?_
 refine GoO.pure (ps_and rfl rfl rfl) ?_
 refine GoO.pure (ps_assign rfl rfl) ?_
 refine GoO.nil ?_
 refine GoK.code ?_
 refine GoC.seq ?_
 refine GoC.region ?_
 refine GoO.pure (ps_move rfl rfl) ?_
 refine GoO.pure (ps_shr rfl rfl rfl (by decide)) ?_
 refine GoO.pure (ps_assign rfl rfl) ?_
 refine GoO.nil ?_
 refine GoK.code ?_
 refine GoC.seq ?_
 refine GoC.region ?_
 refine GoO.pure (ps_move rfl rfl) ?_
 refine GoO.pure (ps_move rfl rfl) ?_
 refine GoO.pure (ps_mulw rfl rfl rfl) ?_
 refine GoO.pure (ps_assign rfl rfl) ?_
 refine GoO.nil ?_
 refine GoK.code ?_
 refine GoC.seq ?_
 refine GoC.region ?_
 refine GoO.pure (ps_move rfl rfl) ?_
 refine GoO.pure (ps_move rfl rfl) ?_
 refine GoO.pure (ps_mulw rfl rfl rfl) ?_
 refine GoO.pure (ps_move rfl rfl) ?_
 refine GoO.pure (ps_shr rfl rfl rfl (by decide)) ?_
 refine GoO.pure (ps_addw rfl rfl rfl) ?_
 refine GoO.pure (ps_assign rfl rfl) ?_
 refine GoO.nil ?_
 refine GoK.code ?_
 refine GoC.seq ?_
 refine GoC.region ?_
 refine GoO.pure (ps_move rfl rfl) ?_
 refine GoO.pure (ps_and rfl rfl rfl) ?_
 refine GoO.pure (ps_assign rfl rfl) ?_
 refine GoO.nil ?_
 refine GoK.code ?_
 refine GoC.seq ?_
 refine GoC.region ?_
 refine GoO.pure (ps_move rfl rfl) ?_
 refine GoO.pure (ps_shr rfl rfl rfl (by decide)) ?_
 refine GoO.pure (ps_assign rfl rfl) ?_
 refine GoO.nil ?_
 refine GoK.code ?_
 refine GoC.seq ?_
 refine GoC.region ?_
 refine GoO.pure (ps_move rfl rfl) ?_
 refine GoO.pure (ps_move rfl rfl) ?_
 refine GoO.pure (ps_move rfl rfl) ?_
 refine GoO.pure (ps_mulw rfl rfl rfl) ?_
 refine GoO.pure (ps_addw rfl rfl rfl) ?_
 refine GoO.pure (ps_assign rfl rfl) ?_
 refine GoO.nil ?_
 refine GoK.code ?_
 refine GoC.seq ?_
 refine GoC.region ?_
 refine GoO.pure (ps_move rfl rfl) ?_
 refine GoO.pure (ps_move rfl rfl) ?_
 refine GoO.pure (ps_mulw rfl rfl rfl) ?_
 refine GoO.pure (ps_move rfl rfl) ?_
 refine GoO.pure (ps_addw rfl rfl rfl) ?_
 refine GoO.pure (ps_move rfl rfl) ?_
 refine GoO.pure (ps_shr rfl rfl rfl (by decide)) ?_
 refine GoO.pure (ps_addw rfl rfl rfl) ?_
 refine GoO.pure (ps_assign rfl rfl) ?_
 refine GoO.nil ?_
 refine GoK.code ?_
 refine GoC.seq ?_
 refine GoC.region ?_
 refine GoO.pure (ps_move rfl rfl) ?_
 refine GoO.pure (ps_move rfl rfl) ?_
 refine GoO.pure (ps_mulw rfl rfl rfl) ?_
 refine GoO.pure (ps_assign rfl rfl) ?_
 refine GoO.nil ?_
 refine GoK.code ?_
 obtain rfl := Option.some.inj H
 exact GoC.retL (ds := [.v (.int .u64 (IntKind.u64.wrap ((IntKind.u64.wrap ((IntKind.u64.wrap ((Int.fdiv p0 (2 ^ min 32 64)) * (Int.fdiv p1 (2 ^ min 32 64)))) + (Int.fdiv (IntKind.u64.wrap ((IntKind.u64.wrap ((Int.fdiv p0 (2 ^ min 32 64)) * (bitsOf .and .u64 p1 4294967295))) + (Int.fdiv (IntKind.u64.wrap ((bitsOf .and .u64 p0 4294967295) * (bitsOf .and .u64 p1 4294967295))) (2 ^ min 32 64)))) (2 ^ min 32 64)))) + (Int.fdiv (IntKind.u64.wrap ((bitsOf .and .u64 (IntKind.u64.wrap ((IntKind.u64.wrap ((Int.fdiv p0 (2 ^ min 32 64)) * (bitsOf .and .u64 p1 4294967295))) + (Int.fdiv (IntKind.u64.wrap ((bitsOf .and .u64 p0 4294967295) * (bitsOf .and .u64 p1 4294967295))) (2 ^ min 32 64)))) 4294967295) + (IntKind.u64.wrap ((bitsOf .and .u64 p0 4294967295) * (Int.fdiv p1 (2 ^ min 32 64)))))) (2 ^ min 32 64))))), .v (.int .u64 (IntKind.u64.wrap (p0 * p1)))]) Try.results123 (ResL.cons (ResD.tmp rfl) (ResL.cons (ResD.tmp rfl) (ResL.nil))) (Take.nil _) ⟨rfl, rfl⟩

def bits_Mul_F (p0 : Int) (p1 : Int) : Option (Int × Int) :=
 (bits_Mul64_F p0 p1).bind fun (r1, r2) =>
 some (r1, r2)
def bits_Mul_P (out : Int × Int) (d : D) (H : List HL) : Prop := d = .tp 2 (nth [.v (.int .u64 out.1), .v (.int .u64 out.2)]) ∧ H = []
theorem bits_Mul_I (out : Int × Int) : IndepP (bits_Mul_P out) := IndepP.of (by rintro _ _ ⟨rfl, rfl⟩; exact ⟨inferInstance, inferInstance⟩)
set_option maxRecDepth 100000 in
set_option maxHeartbeats 4000000 in
theorem bits_Mul_spec (p0 : Int) (p1 : Int) {out : Int × Int} (H : bits_Mul_F p0 p1 = some out) : Does Try.prog 117 [.v (.int .u64 p0), .v (.int .u64 p1)] [] (bits_Mul_P out) := by
 unfold bits_Mul_F at H
 refine Does.intro Try.func117 rfl Try.ntmps117 rfl fun w0 I0 => ?_
 refine GoC.seq ?_
 refine GoC.region ?_
 refine GoO.pure (ps_assign rfl rfl) ?_
 refine GoO.pure (ps_assign rfl rfl) ?_
 refine GoO.nil ?_
 refine GoK.code ?_
 refine GoC.seq ?_
 refine GoC.condF rfl ?_
 refine GoC.skip ?_
 refine GoK.code ?_
 refine GoC.seq ?_
 refine GoC.region ?_
 refine GoO.pure (ps_move rfl rfl) ?_
 refine GoO.pure (ps_move rfl rfl) ?_
 have hb := bind_l H; clear H
 obtain ⟨⟨r1, r2⟩, e3, H⟩ := hb
 refine GoO.effC (ef_call rfl (Take.nil _) (Take.nil _) (bits_Mul64_spec p0 p1 e3) (LendL.cons (Lend.refl _ _) (LendL.cons (Lend.refl _ _) (LendL.nil))) rfl (bits_Mul64_I (r1, r2))) (fun rr HH hp => ?_)
 obtain ⟨rfl, rfl⟩ := hp
 refine GoO.pure (ps_move rfl rfl) ?_
 refine GoO.pure (ps_extract rfl rfl rfl) ?_
 refine GoO.pure (ps_extract rfl rfl rfl) ?_
 refine GoO.pure (ps_assign rfl rfl) ?_
 refine GoO.pure (ps_assign rfl rfl) ?_
 refine GoO.nil ?_
 refine GoK.code ?_
 refine GoC.seq ?_
 refine GoC.region ?_
 refine GoO.pure (ps_move rfl rfl) ?_
 refine GoO.pure (ps_move rfl rfl) ?_
 refine GoO.pure (ps_assign rfl rfl) ?_
 refine GoO.pure (ps_assign rfl rfl) ?_
 refine GoO.nil ?_
 refine GoK.code ?_
 obtain rfl := Option.some.inj H
 exact GoC.retL (ds := [.v (.int .u64 r1), .v (.int .u64 r2)]) Try.results117 (ResL.cons (ResD.tmp rfl) (ResL.cons (ResD.tmp rfl) (ResL.nil))) (Take.nil _) ⟨rfl, rfl⟩

def slices_Repeat_int_B1 : ((List Int) × Nat) → Option (Ct ((List Int) × Nat) ((List Int))) := fun (l14, n15) =>
 if ((n15 : Nat) : Int) < ((l14.length : Nat) : Int) then
  ck (n15 ≤ l14.length) <|
  ck (InI (((n15 : Nat) : Int) + (((min (n15) (l14.length - n15)) : Nat) : Int))) <|
  some (.go ((cpl l14 (n15 + 0) (l14.length - n15) (subl l14 (0 + 0) (n15))), (n15 + (min (n15) (l14.length - n15)))))
 else
  some (.brk (l14, n15))
def slices_Repeat_int_F (p0 : (List Int)) (p1 : Int) : Option ((List Int)) :=
 ((
  if p1 < 0 then
   none
  else
   some ()) : Option (Unit)).bind fun () =>
 (bits_Mul_F (IntKind.u64.wrap ((p0.length : Nat) : Int)) (IntKind.u64.wrap p1)).bind fun (r5, r6) =>
 ((
  if 0 < r5 then
   none
  else
   if 9223372036854775807 < r6 then
    none
   else
    some ()) : Option (Unit)).bind fun () =>
 ck (0 ≤ (IntKind.i64.wrap r6) ∧ (IntKind.i64.wrap r6) ≤ 10000000000) <|
 (loopC (slices_Repeat_int_B1) 1000000 ((cpl (List.replicate ((IntKind.i64.wrap r6).toNat) (0 : Int)) 0 ((IntKind.i64.wrap r6).toNat) p0), (min p0.length ((IntKind.i64.wrap r6).toNat)))).bind fun q => match q with
 | .go (l19, n20) =>
  some l19
 | .ret x => some x
def slices_Repeat_int_P (out : (List Int)) (d : D) (H : List HL) : Prop := ∃ β1 : BK, d = .own β1 1 0 out.length ∧ H = [.one β1 3 1 (row out)]
theorem slices_Repeat_int_I (out : (List Int)) : IndepP (slices_Repeat_int_P out) := IndepP.of (by rintro _ _ ⟨β1, rfl, rfl⟩; exact ⟨inferInstance, inferInstance⟩)
set_option maxRecDepth 100000 in
set_option maxHeartbeats 4000000 in
theorem slices_Repeat_int_spec (p0 : (List Int)) (p1 : Int) {out : (List Int)} (H : slices_Repeat_int_F p0 p1 = some out) : Does Try.prog 102 [slD p0, .v (.int .i64 p1)] [] (slices_Repeat_int_P out) := by
 unfold slices_Repeat_int_F at H
 refine Does.intro Try.func102 rfl Try.ntmps102 rfl fun w0 I0 => ?_
 refine GoC.seq ?_
 refine GoC.region ?_
 refine GoO.pure (ps_assign rfl rfl) ?_
 refine GoO.nil ?_
 refine GoK.code ?_
 have hb := bind_l H; clear H
 obtain ⟨⟨⟩, H, HK1⟩ := hb
 refine GoC.seqJ [(0, slD p0), (1, .v (.int .i64 p1))] [] (fun v h => v = [] ∧ h = []) ?_ ?_
 refine GoC.seq ?_
 refine GoC.region ?_
 refine GoO.pure (ps_move rfl rfl) ?_
 refine GoO.pure (ps_lss rfl rfl rfl) ?_
 refine GoO.nil ?_
 refine GoK.code ?_
 refine GoC.condD rfl (fun h3 => ?_) (fun h3 => ?_)
 replace H := ite_t h3 H
 cases H
 replace H := ite_f h3 H
 refine GoC.skip ?_
 cases H
 exact GoK.meet ⟨rfl, rfl⟩ (EnvD.eq rfl (EnvD.eq rfl (EnvD.nil))) (TkD.nil _)
 rintro v h ⟨rfl, rfl⟩
 have H := HK1; clear HK1
 refine GoC.seq ?_
 refine GoC.region ?_
 refine GoO.pure (ps_move rfl rfl) ?_
 refine GoO.pure (ps_len rfl (by constructor) rfl) ?_
 refine GoO.lenLe (n := p0.length) (x := .tmp 13) rfl (by constructor) sl_lenLe (fun ml4 => ?_)
 refine GoO.pure (ps_convK rfl rfl) ?_
 refine GoO.pure (ps_move rfl rfl) ?_
 refine GoO.pure (ps_convK rfl rfl) ?_
 have hb := bind_l H; clear H
 obtain ⟨⟨r5, r6⟩, e7, H⟩ := hb
 refine GoO.effC (ef_call rfl (Take.nil _) (Take.nil _) (bits_Mul_spec (IntKind.u64.wrap ((p0.length : Nat) : Int)) (IntKind.u64.wrap p1) e7) (LendL.cons (Lend.refl _ _) (LendL.cons (Lend.refl _ _) (LendL.nil))) rfl (bits_Mul_I (r5, r6))) (fun rr HH hp => ?_)
 obtain ⟨rfl, rfl⟩ := hp
 refine GoO.pure (ps_move rfl rfl) ?_
 refine GoO.pure (ps_extract rfl rfl rfl) ?_
 refine GoO.pure (ps_extract rfl rfl rfl) ?_
 refine GoO.pure (ps_assign rfl rfl) ?_
 refine GoO.pure (ps_assign rfl rfl) ?_
 refine GoO.nil ?_
 refine GoK.code ?_
 have hb := bind_l H; clear H
 obtain ⟨⟨⟩, H, HK8⟩ := hb
 refine GoC.seqJ [(0, slD p0), (6, .v (.int .u64 r6))] [] (fun v h => v = [] ∧ h = []) ?_ ?_
 refine GoC.seq ?_
 refine GoC.region ?_
 refine GoO.pure (ps_move rfl rfl) ?_
 refine GoO.pure (ps_gtr rfl rfl rfl) ?_
 refine GoO.pure (ps_move rfl rfl) ?_
 refine GoO.guardE rfl rfl rfl rfl (fun h10 => ?_) (fun h10 => ?_)
 replace H := ite_f h10 H
 refine GoO.pure (ps_move rfl rfl) ?_
 refine GoO.guardT rfl rfl rfl ?_
 refine GoO.pure (ps_gtr rfl rfl rfl) ?_
 refine GoO.pure (ps_pickF rfl rfl rfl) ?_
 refine GoO.nil ?_
 refine GoK.code ?_
 refine GoC.condD rfl (fun h11 => ?_) (fun h11 => ?_)
 replace H := ite_t h11 H
 cases H
 replace H := ite_f h11 H
 refine GoC.skip ?_
 cases H
 exact GoK.meet ⟨rfl, rfl⟩ (EnvD.eq rfl (EnvD.eq rfl (EnvD.nil))) (TkD.nil _)
 replace H := ite_t h10 H
 refine GoO.guardF rfl rfl rfl rfl ?_
 refine GoO.pure (ps_pickT rfl rfl rfl) ?_
 refine GoO.nil ?_
 refine GoK.code ?_
 refine GoC.condT rfl ?_
 cases H
 rintro v h ⟨rfl, rfl⟩
 have H := HK8; clear HK8
 refine GoC.seq ?_
 refine GoC.region ?_
 refine GoO.pure (ps_move rfl rfl) ?_
 refine GoO.pure (ps_convK rfl rfl) ?_
 have c13 := ck_l H; replace H := ck_r H
 refine GoO.effB (ef_makeZ rfl rfl c13 rfl rfl rfl) (fun β12 => ?_)
 refine GoO.le (Le.reH At.p0 (HLe.zeros (α := Int) ⟨trivial, DLe.refl _⟩)) ?_
 refine GoO.pure (ps_assign rfl rfl) ?_
 refine GoO.nil ?_
 refine GoK.code ?_
 refine GoC.seq ?_
 refine GoC.region ?_
 refine GoO.pure (ps_move rfl rfl) ?_
 refine GoO.pure (ps_move rfl rfl) ?_
 refine GoO.eff1 (ef_copy rfl rfl At.p0 Src.sl (cpy_row (α := Int) (xs := (List.replicate ((IntKind.i64.wrap r6).toNat) (0 : Int))) (ys := p0) (by first | omega | (simp only [subl_length, cpl_length, List.length_set, List.length_append, List.length_cons, List.length_nil, List.length_replicate, row_len]; omega) | (simp only [subl_length, cpl_length, List.length_set, List.length_append, List.length_cons, List.length_nil, List.length_replicate, row_len]; done)) (by first | omega | (simp only [subl_length, cpl_length, List.length_set, List.length_append, List.length_cons, List.length_nil, List.length_replicate, row_len]; omega) | (simp only [subl_length, cpl_length, List.length_set, List.length_append, List.length_cons, List.length_nil, List.length_replicate, row_len]; done)) (fun _ _ _ _ => rfl)) (by first | omega | (simp only [subl_length, cpl_length, List.length_set, List.length_append, List.length_cons, List.length_nil, List.length_replicate, row_len]; omega) | (simp only [subl_length, cpl_length, List.length_set, List.length_append, List.length_cons, List.length_nil, List.length_replicate, row_len]; done)) rfl) ?_
 refine GoO.pure (ps_assign rfl rfl) ?_
 refine GoO.nil ?_
 refine GoK.code ?_
 refine GoC.seq ?_
 have hb := bind_l H; clear H
 obtain ⟨q18, hl26, HK16⟩ := hb
 refine GoC.blockJ [] [] (fun v h => ∃ (l19 : (List Int)) (n20 : Nat), q18 = .go (l19, n20) ∧ v = [(7, .own β12 1 0 l19.length)] ∧ h = [.one β12 3 1 (row l19)]) ?_ ?_
 refine GoC.loopJ [] [] (fun mQ v h => ∃ (l14 : (List Int)) (n15 : Nat), loopC (slices_Repeat_int_B1) mQ (l14, n15) = some q18 ∧ v = [(7, .own β12 1 0 l14.length), (8, .v (.int .i64 ((n15 : Nat) : Int)))] ∧ h = [.one β12 3 1 (row l14)]) 1000000 ⟨_, _, hl26, rfl, rfl⟩ (EnvD.cons rfl (DLe.len (by first | rfl | omega | (simp only [row_len, gridC_len, rowO_len, List.length_replicate, cpl_length] <;> first | rfl | omega))) (EnvD.eq rfl (EnvD.nil))) (TkD.cons _ _ _ _ _ Rem.p0 (HLe.refl _) (TkD.nil _)) ?_
 rintro m21 v h ⟨l14, n15, hF17, rfl, rfl⟩
 obtain ⟨m21', rfl⟩ | rfl : (∃ x, m21 = x + 1) ∨ m21 = 0 := by cases m21 <;> simp
 case inr => cases hF17
 have hb := bind_l hF17; clear hF17
 obtain ⟨qrm21, H, hF17⟩ := hb
 refine GoC.seq ?_
 refine GoC.seq ?_
 refine GoC.region ?_
 refine GoO.pure (ps_move rfl rfl) ?_
 refine GoO.pure (ps_move rfl rfl) ?_
 refine GoO.pure (ps_len rfl (by constructor) rfl) ?_
 refine GoO.lenLe (n := l14.length) (x := .tmp 35) rfl (by constructor) own_lenLe (fun ml22 => ?_)
 refine GoO.pure (ps_lss rfl rfl rfl) ?_
 refine GoO.nil ?_
 refine GoK.code ?_
 refine GoC.condD rfl (fun h23 => ?_) (fun h23 => ?_)
 replace H := ite_t h23 H
 refine GoC.skip ?_
 refine GoK.code ?_
 refine GoC.block ?_
 refine GoC.drawP (.q 0 (.q 1 (.q 2 (.q 3 (.q 4 (.q 5 (.q 6 (.one 7 (.q 8 (.q 9 (.done))))))))))) [] follows (by kernel_rfl) (Take.nil _) ?_
 refine GoP.qN rfl (ps_move rfl rfl) ?_
 refine GoP.qN rfl (ps_move rfl rfl) ?_
 refine GoP.qN rfl (ps_move rfl rfl) ?_
 have c24 := ck_l H; replace H := ck_r H
 refine GoP.qN rfl (ps_slice rfl (Bd.nat _ _ n15 _ rfl) (Bd.no _) c24 (Nat.le_refl _) rfl) ?_
 refine GoP.qN rfl (ps_move rfl rfl) ?_
 refine GoP.qN rfl (ps_move rfl rfl) ?_
 refine GoP.qN rfl (ps_slice rfl (Bd.no _) (Bd.nat _ _ n15 _ rfl) (Nat.zero_le _) c24 rfl) ?_
 refine GoP.one1 rfl trivial (ef_copy rfl rfl At.p0 (Src.own At.p0 (by first | omega | (simp only [subl_length, cpl_length, List.length_set, List.length_append, List.length_cons, List.length_nil, List.length_replicate, row_len]; omega) | (simp only [subl_length, cpl_length, List.length_set, List.length_append, List.length_cons, List.length_nil, List.length_replicate, row_len]; done))) (cpy_row (α := Int) (xs := l14) (ys := (subl l14 (0 + 0) (n15))) (by first | omega | (simp only [subl_length, cpl_length, List.length_set, List.length_append, List.length_cons, List.length_nil, List.length_replicate, row_len]; omega) | (simp only [subl_length, cpl_length, List.length_set, List.length_append, List.length_cons, List.length_nil, List.length_replicate, row_len]; done)) (by first | omega | (simp only [subl_length, cpl_length, List.length_set, List.length_append, List.length_cons, List.length_nil, List.length_replicate, row_len]; omega) | (simp only [subl_length, cpl_length, List.length_set, List.length_append, List.length_cons, List.length_nil, List.length_replicate, row_len]; done)) (fun _ _ h _ => congrArg (fun z => El.enc z _) (subl_getD h).symm)) (by first | omega | (simp only [subl_length, cpl_length, List.length_set, List.length_append, List.length_cons, List.length_nil, List.length_replicate, row_len]; omega) | (simp only [subl_length, cpl_length, List.length_set, List.length_append, List.length_cons, List.length_nil, List.length_replicate, row_len]; done)) rfl) (Take.cons _ _ _ _ _ Rem.p0 (Take.nil _)) ?_
 have c25 := ck_l H; replace H := ck_r H
 refine GoP.qN rfl (ps_add rfl rfl rfl c25) ?_
 refine GoP.qN rfl (ps_assign rfl rfl) ?_
 refine GoP.done ?_
 refine GoK.blk ?_
 obtain rfl := Option.some.inj H
 exact GoK.againJ m21' (by omega) ⟨_, _, hF17, rfl, rfl⟩ (EnvD.cons rfl (DLe.len (by first | rfl | omega | (simp only [row_len, gridC_len, rowO_len, subl_length, cpl_length] <;> first | rfl | omega))) (EnvD.eq rfl (EnvD.nil))) (TkD.cons _ _ _ _ _ Rem.p0 (HLe.refl _) (TkD.nil _))
 replace H := ite_f h23 H
 refine GoC.exit rfl ?_
 obtain rfl := Option.some.inj H
 obtain rfl := Option.some.inj hF17
 exact GoK.meet ⟨_, _, rfl, rfl, rfl⟩ (EnvD.cons rfl (DLe.len (by first | rfl | omega | (simp only [row_len, gridC_len, rowO_len] <;> first | rfl | omega))) (EnvD.nil)) (TkD.cons _ _ _ _ _ Rem.p0 (HLe.refl _) (TkD.nil _))
 rintro v h ⟨l19, n20, rfl, rfl, rfl⟩
 have H := HK16; clear HK16
 refine GoK.code ?_
 refine GoC.seq ?_
 refine GoC.region ?_
 refine GoO.pure (ps_move rfl rfl) ?_
 refine GoO.pure (ps_assign rfl rfl) ?_
 refine GoO.nil ?_
 refine GoK.code ?_
 obtain rfl := Option.some.inj H
 exact GoC.retL (ds := [.own β12 1 0 l19.length]) Try.results102 (ResL.cons (ResD.tmp rfl) (ResL.nil)) (Take.cons _ _ _ _ _ Rem.p0 (Take.nil _)) ⟨β12, rfl, rfl⟩

end Go.Proofs.Ytdpkdicciclobaa
