import Derived.Test.YthchdnemndolbaaDoorQTys
import Derived.Test.YthchdnemndolbaaDoorQDat
namespace Go.Proofs.YthchdnemndolbaaDoor
open Go Go.Proofs.YthchdnemndolbaaDoor.Sx
set_option linter.unusedVariables false
set_option linter.unusedSimpArgs false
def slices_Clone_Arc_F (s_ : (List Arc)) : Option ((List Arc)) :=
 ck (0 + s_.length ≤ 5864062014805) <|
 some (([] : List Arc) ++ s_)
def slices_Clone_Arc_P (out : (List Arc)) (d : D) (H : List HL) : Prop := ∃ β1 : BK, d = .own β1 3 0 out.length ∧ H = [.one β1 83 3 (row out)]
theorem slices_Clone_Arc_I (out : (List Arc)) : IndepP (slices_Clone_Arc_P out) := IndepP.of (by rintro _ _ ⟨β1, rfl, rfl⟩; exact ⟨inferInstance, inferInstance⟩)
set_option maxRecDepth 100000 in
set_option maxHeartbeats 4000000 in
theorem slices_Clone_Arc_spec (s_ : (List Arc)) {out : (List Arc)} (H : slices_Clone_Arc_F s_ = some out) : Does Tryd.prog 67 [slD s_] [] (slices_Clone_Arc_P out) := by
 unfold slices_Clone_Arc_F at H
 refine Does.intro Tryd.func67 rfl Tryd.ntmps67 rfl fun w0 I0 tb0 => ?_
 refine Qj (Qc ?_)
 refine Qa (Qi rfl rfl) ?_
 refine Qo (Qe (Qj (Qj (Qc ?_))))
 refine Qa (Ql rfl rfl) ?_
 refine GoO.eff (ef_eqlNil rfl rfl rfl) (fun s2 hs2 => ?_)
 obtain ⟨bn1, hbn1, rfl⟩ := hs2
 refine Qo (Qe ?_)
 refine GoC.cond rfl (fun h2 => ?_) (fun h2 => ?_)
 have e0 := List.eq_nil_of_length_eq_zero (hbn1 h2); subst e0; replace H := ck_r H
 refine Qj (Qc ?_)
 refine Qa (Qi rfl rfl) ?_
 refine Qo (Qe ?_)
 obtain rfl := Qf H
 refine GoC.le (le_row0 83 3 (row ([] : List Arc)) rfl) ?_
 exact Jh (ds := [.own ⟨0, 0, 0⟩ 3 0 0]) Tryd.results67 (Qt (ResD.le (Qv rfl) (by exact DLe.nilOwn)) (Je)) (Qd _ _ _ _ _ Qk (Qm _)) ⟨⟨0, 0, 0⟩, rfl, rfl⟩
 refine Jg (Qe (Qj (Qc ?_)))
 refine Jq (ef_buildSlice (row (([] : List Arc) : List Arc)) rfl (Parts.nil _) rfl rfl rfl rfl) (fun β3 => ?_)
 refine Qa (Ql rfl rfl) ?_
 have c5 := ck_l H; replace H := ck_r H
 refine Jq (ef_append rfl rfl Qk Src.sl (cat_row (α := Arc) (by first | rfl | omega | (simp only [szl] <;> first | rfl | omega)) (by first | rfl | omega | (simp only [szl] <;> first | rfl | omega)) (fun _ _ _ _ => rfl)) (by first | omega | (simp only [szl]; omega) | (simp only [szl]; done)) (app_le c5 rfl) rfl rfl rfl) (fun β4 => ?_)
 refine Qa (Qi rfl rfl) ?_
 refine Qo (Qe ?_)
 obtain rfl := Qf H
 exact Jh (ds := [.own β4 3 0 (([] : List Arc) ++ s_).length]) Tryd.results67 (Qt (ResD.le (Qv rfl) (by exact Jp (by first | rfl | omega | (simp only [row_len, gridC_len, rowO_len, List.length_append, List.length_cons, List.length_nil, List.length_nil] <;> first | rfl | omega)))) (Je)) (Qd _ _ _ _ _ Qk (Qm _)) ⟨β4, rfl, rfl⟩
def slices_Clone_int_F (s_ : (List Int)) : Option ((List Int)) :=
 ck (0 + s_.length ≤ 17592186044416) <|
 some (([] : List Int) ++ s_)
def slices_Clone_int_P (out : (List Int)) (d : D) (H : List HL) : Prop := ∃ β1 : BK, d = .own β1 1 0 out.length ∧ H = [.one β1 3 1 (row out)]
theorem slices_Clone_int_I (out : (List Int)) : IndepP (slices_Clone_int_P out) := IndepP.of (by rintro _ _ ⟨β1, rfl, rfl⟩; exact ⟨inferInstance, inferInstance⟩)
set_option maxRecDepth 100000 in
set_option maxHeartbeats 4000000 in
theorem slices_Clone_int_spec (s_ : (List Int)) {out : (List Int)} (H : slices_Clone_int_F s_ = some out) : Does Tryd.prog 78 [slD s_] [] (slices_Clone_int_P out) := by
 unfold slices_Clone_int_F at H
 refine Does.intro Tryd.func78 rfl Tryd.ntmps78 rfl fun w0 I0 tb0 => ?_
 refine Qj (Qc ?_)
 refine Qa (Qi rfl rfl) ?_
 refine Qo (Qe (Qj (Qj (Qc ?_))))
 refine Qa (Ql rfl rfl) ?_
 refine GoO.eff (ef_eqlNil rfl rfl rfl) (fun s2 hs2 => ?_)
 obtain ⟨bn1, hbn1, rfl⟩ := hs2
 refine Qo (Qe ?_)
 refine GoC.cond rfl (fun h2 => ?_) (fun h2 => ?_)
 have e0 := List.eq_nil_of_length_eq_zero (hbn1 h2); subst e0; replace H := ck_r H
 refine Qj (Qc ?_)
 refine Qa (Qi rfl rfl) ?_
 refine Qo (Qe ?_)
 obtain rfl := Qf H
 refine GoC.le (le_row0 3 1 (row ([] : List Int)) rfl) ?_
 exact Jh (ds := [.own ⟨0, 0, 0⟩ 1 0 0]) Tryd.results78 (Qt (ResD.le (Qv rfl) (by exact DLe.nilOwn)) (Je)) (Qd _ _ _ _ _ Qk (Qm _)) ⟨⟨0, 0, 0⟩, rfl, rfl⟩
 refine Jg (Qe (Qj (Qc ?_)))
 refine Jq (ef_buildSlice (row (([] : List Int) : List Int)) rfl (Parts.nil _) rfl rfl rfl rfl) (fun β3 => ?_)
 refine Qa (Ql rfl rfl) ?_
 have c5 := ck_l H; replace H := ck_r H
 refine Jq (ef_append rfl rfl Qk Src.sl (cat_row (α := Int) (by first | rfl | omega | (simp only [szl] <;> first | rfl | omega)) (by first | rfl | omega | (simp only [szl] <;> first | rfl | omega)) (fun _ _ _ _ => rfl)) (by first | omega | (simp only [szl]; omega) | (simp only [szl]; done)) (app_le c5 rfl) rfl rfl rfl) (fun β4 => ?_)
 refine Qa (Qi rfl rfl) ?_
 refine Qo (Qe ?_)
 obtain rfl := Qf H
 exact Jh (ds := [.own β4 1 0 (([] : List Int) ++ s_).length]) Tryd.results78 (Qt (ResD.le (Qv rfl) (by exact Jp (by first | rfl | omega | (simp only [row_len, gridC_len, rowO_len, List.length_append, List.length_cons, List.length_nil, List.length_nil] <;> first | rfl | omega)))) (Je)) (Qd _ _ _ _ _ Qk (Qm _)) ⟨β4, rfl, rfl⟩
def slices_Grow_Piece_F (n_ : Int) : Option ((List Piece)) :=
 ((
  if n_ < 0 then
   none
  else
   some ()) : Option (Unit)).bind fun () =>
 ck (InI (0 - 0)) <|
 ck (InI (n_ - (0 - 0))) <|
 if 0 < (n_ - (0 - 0)) then
  ck (1 ≤ (n_ - (0 - 0)) ∧ (n_ - (0 - 0)) ≤ 10000000000) <|
  some (subl (List.replicate ((n_ - (0 - 0)).toNat) El.d) 0 0)
 else
  some []
def slices_Grow_Piece_P (out : (List Piece)) (d : D) (H : List HL) : Prop := ∃ β1 : BK, d = .own β1 2 0 out.length ∧ H = [.one β1 128 2 (row out)]
set_option maxRecDepth 100000 in
set_option maxHeartbeats 4000000 in
theorem slices_Grow_Piece_spec (n_ : Int) {out : (List Piece)} (H : slices_Grow_Piece_F n_ = some out) : Does Tryd.prog 94 [.v (.slice none 0 0), .v (.int .i64 n_)] [] (slices_Grow_Piece_P out) := by
 unfold slices_Grow_Piece_F at H
 refine Does.intro Tryd.func94 rfl Tryd.ntmps94 rfl fun w0 I0 tb0 => ?_
 refine Qj (Qc ?_)
 refine Qa (Qi rfl rfl) ?_
 refine Qo (Qe ?_)
 have hb := Jd H; clear H
 obtain ⟨⟨⟩, H, HK1⟩ := hb
 refine GoC.seqJ [(0, .v (.slice none 0 0)), (1, .v (.int .i64 n_))] [] (fun v h => v = [] ∧ h = []) ?_ ?_
 refine Qj (Qc ?_)
 refine Qa (Ql rfl rfl) ?_
 refine Qa (ps_lss rfl rfl rfl) ?_
 refine Qo (Qe ?_)
 refine Jc rfl (fun h3 => ?_) (fun h3 => ?_)
 replace H := Jt h3 H
 cases H
 replace H := Ju h3 H
 refine Jg ?_
 cases H
 exact Jr ⟨rfl, rfl⟩ (Qg rfl (Qg rfl (Qy))) (Jb _)
 rintro v h ⟨rfl, rfl⟩
 have H := HK1; clear HK1
 refine Qj (Qj (Qc ?_))
 refine Qa (Ql rfl rfl) ?_
 refine Qa (Ql rfl rfl) ?_
 refine Qa (ps_capNil rfl rfl) ?_
 refine Qa (Ql rfl rfl) ?_
 refine Qa (ps_len rfl (by constructor) rfl) ?_
 have c4 := ck_l H; replace H := ck_r H
 refine Qa (ps_sub rfl rfl rfl c4) ?_
 have c5 := ck_l H; replace H := ck_r H
 refine Qa (ps_sub rfl rfl rfl c5) ?_
 refine Qa (Qi rfl rfl) ?_
 refine Qo (Qe (Qj (Qc ?_)))
 refine Qa (Ql rfl rfl) ?_
 refine Qa (ps_gtr rfl rfl rfl) ?_
 refine Qo (Qe ?_)
 refine Jc rfl (fun h6 => ?_) (fun h6 => ?_)
 replace H := Jt h6 H
 refine Qc ?_
 refine Qa (Ql rfl rfl) ?_
 refine Qa (Ql rfl rfl) ?_
 refine Qa (ps_capNil rfl rfl) ?_
 refine Qa (ps_sliceNil rfl rfl rfl) ?_
 refine Qa (Ql rfl rfl) ?_
 have c8 := ck_l H; replace H := ck_r H
 refine Jq (ef_appendZ rfl rfl c8 rfl rfl rfl) (fun β7 => ?_)
 refine GoO.le (Le.reH Qw (HLe.zeros (α := Piece) ⟨⟨Qs, Qb _⟩, DLe.nilSl⟩)) ?_
 refine Qa (Ql rfl rfl) ?_
 refine Qa (ps_len rfl (by constructor) rfl) ?_
 refine Qa (ps_slice rfl (Bd.no _) (Bd.nat _ _ 0 _ rfl) (Nat.zero_le _) (Nat.zero_le _) rfl) ?_
 refine GoO.le (Le.shift Qw (by first | omega | (simp only [szl]; omega) | (simp only [szl, eldI]; omega))) ?_
 refine GoO.le (Le.reH Qw (HLe.part (xs := (List.replicate ((n_ - (0 - 0)).toNat) El.d)) (r := 0 + 0) (len := 0) (by first | omega | (simp only [szl]; omega)))) ?_
 generalize (⟨β7.b, β7.o + (0 + 0) * 2, β7.s - (0 + 0)⟩ : BK) = β9
 refine Qa (Qi rfl rfl) ?_
 refine Qo (Qe (Qj (Qc ?_)))
 refine Qa (Ql rfl rfl) ?_
 refine Qa (Qi rfl rfl) ?_
 refine Qo (Qe ?_)
 obtain rfl := Qf H
 exact Jh (ds := [.own β9 2 0 (subl (List.replicate ((n_ - (0 - 0)).toNat) El.d) 0 0).length]) Tryd.results94 (Qt (ResD.le (Qv rfl) (by exact Jp (by first | rfl | omega | (simp only [row_len, gridC_len, rowO_len, List.length_replicate, subl_length] <;> first | rfl | omega)))) (Je)) (Qd _ _ _ _ _ Qk (Qm _)) ⟨β9, rfl, rfl⟩
 replace H := Ju h6 H
 refine Jg (Qe (Qj (Qc ?_)))
 refine Qa (Ql rfl rfl) ?_
 refine Qa (Qi rfl rfl) ?_
 refine Qo (Qe ?_)
 obtain rfl := Qf H
 refine GoC.le (le_row0 128 2 (row ([] : List Piece)) rfl) ?_
 exact Jh (ds := [.own ⟨0, 0, 0⟩ 2 0 0]) Tryd.results94 (Qt (ResD.le (Qv rfl) (by exact DLe.nilOwn)) (Je)) (Qd _ _ _ _ _ Qk (Qm _)) ⟨⟨0, 0, 0⟩, rfl, rfl⟩
def slices_Concat_Piece_B1 (ss_ : (List (List Piece))) : Nat → Nat → Option (Nat) := fun k7 n2 =>
 ck (InI (((n2 : Nat) : Int) + (((ss_.getD k7 []).length : Nat) : Int))) <|
 if (((n2 + (ss_.getD k7 []).length) : Nat) : Int) < 0 then
  none
 else
  some (n2 + (ss_.getD k7 []).length)
def slices_Concat_Piece_B2 (ss_ : (List (List Piece))) : Nat → (List Piece) → Option ((List Piece)) := fun k22 l17 =>
 ck (l17.length + (ss_.getD k22 []).length ≤ 4398046511104) <|
 some (l17 ++ (ss_.getD k22 []))
def slices_Concat_Piece_F (ss_ : (List (List Piece))) : Option ((List Piece)) :=
 (forN (slices_Concat_Piece_B1 ss_) ss_.length 0 0).bind fun n6 =>
 (slices_Grow_Piece_F ((n6 : Nat) : Int)).bind fun r13 =>
 (forN (slices_Concat_Piece_B2 ss_) ss_.length 0 r13).bind fun l21 =>
 some l21
def slices_Concat_Piece_P (out : (List Piece)) (d : D) (H : List HL) : Prop := ∃ β1 : BK, d = .own β1 2 0 out.length ∧ H = [.one β1 128 2 (row out)]
set_option maxRecDepth 100000 in
set_option maxHeartbeats 4000000 in
theorem slices_Concat_Piece_spec (ss_ : (List (List Piece))) {out : (List Piece)} (H : slices_Concat_Piece_F ss_ = some out) : Does Tryd.prog 80 [slD ss_] [] (slices_Concat_Piece_P out) := by
 unfold slices_Concat_Piece_F at H
 refine Does.intro Tryd.func80 rfl Tryd.ntmps80 rfl fun w0 I0 tb0 => ?_
 refine Qj (Qc ?_)
 refine Qa (Qi rfl rfl) ?_
 refine Qo (Qe (Qj (Qc ?_)))
 refine Qa (Qi rfl rfl) ?_
 refine Qo (Qe (Qj (Qj (Qc ?_))))
 refine Qa (Ql rfl rfl) ?_
 refine Qa (ps_len rfl (by constructor) rfl) ?_
 refine GoO.lenLe (n := ss_.length) (x := .tmp 9) rfl (by constructor) sl_lenLe (fun ml1 => ?_)
 refine Qa (Ql rfl rfl) ?_
 refine Qo (Qe ?_)
 have hb := Jd H; clear H
 obtain ⟨n6, hl12, HK3⟩ := hb
 refine GoC.blockJ [(0, slD ss_)] [] (fun v h => v = [(3, .v (.int .i64 ((n6 : Nat) : Int)))] ∧ h = []) ?_ ?_
 refine GoC.loopJ [(0, _), (9, _), (10, _)] [] (fun mQ v h => ∃ (k7 : Nat) (n2 : Nat), (k7 + mQ = ss_.length ∧ forN (slices_Concat_Piece_B1 ss_) mQ k7 n2 = some n6) ∧ v = [(11, .v (.int .i64 ((k7 : Nat) : Int))), (3, .v (.int .i64 ((n2 : Nat) : Int)))] ∧ h = []) ss_.length ⟨_, _, ⟨by omega, hl12⟩, rfl, rfl⟩ (Qg rfl (Qg rfl (Qg rfl (Qg rfl (Qg rfl (Qy)))))) (Jb _) ?_
 rintro m8 v h ⟨k7, n2, ⟨hkk7, hF4⟩, rfl, rfl⟩
 refine Qj (Qc ?_)
 refine Qa (ps_lss rfl rfl rfl) ?_
 refine Qo (Qe (Qj ?_))
 refine Jc rfl (fun (hk7 : (k7 : Int) < ((ss_.length : Nat) : Int)) => ?_) (fun (hk7 : ¬ (k7 : Int) < ((ss_.length : Nat) : Int)) => ?_)
 obtain ⟨m8', rfl⟩ : ∃ x, m8 = x + 1 := ⟨m8 - 1, by omega⟩
 have hb := Jd hF4; clear hF4
 obtain ⟨qrm8, H, hF4⟩ := hb
 have hnk7 : k7 < ss_.length := by omega
 have hIk7 : InI ((k7 : Int) + 1) := inI_len hk7 ml1
 refine Jg (Qe (Qj (GoC.block (Qj (Qc ?_)))))
 refine Qa (ps_indexAddrRN rfl rfl hnk7 rfl) ?_
 refine Qa (ps_loadR rfl hnk7 rfl rfl) ?_
 refine Qa (Qi rfl rfl) ?_
 refine Qo (Qe (Qj (Qc ?_)))
 refine Qa (Ql rfl rfl) ?_
 refine Qa (Ql rfl rfl) ?_
 refine Qa (ps_len rfl (by constructor) rfl) ?_
 refine GoO.lenLe (n := (ss_.getD k7 []).length) (x := .tmp 16) rfl (by constructor) sl_lenLe (fun ml9 => ?_)
 have c10 := ck_l H; replace H := ck_r H
 refine Qa (ps_add rfl rfl rfl c10) ?_
 refine Qa (Qi rfl rfl) ?_
 refine Qo (Qe (Qj (Qc ?_)))
 refine Qa (Ql rfl rfl) ?_
 refine Qa (ps_lss rfl rfl rfl) ?_
 refine Qo (Qe ?_)
 refine Jc rfl (fun h11 => ?_) (fun h11 => ?_)
 replace H := Jt h11 H
 cases H
 replace H := Ju h11 H
 refine Jg (GoK.blk (Qe (Qc ?_)))
 refine Qa (ps_add rfl rfl rfl hIk7) ?_
 refine Qa (Ql rfl rfl) ?_
 refine Qo ?_
 obtain rfl := Qf H
 exact GoK.againJ m8' (by omega) ⟨_, _, ⟨by omega, hF4⟩, rfl, rfl⟩ (Qg rfl (Qg rfl (Qg rfl (Qg rfl (Qg rfl (Qy)))))) (Jb _)
 obtain rfl : m8 = 0 := by omega
 refine GoC.exit rfl ?_
 cases hF4
 exact Jr ⟨rfl, rfl⟩ (Qg rfl (Qg rfl (Qy))) (Jb _)
 rintro v h ⟨rfl, rfl⟩
 have H := HK3; clear HK3
 refine Qe (Qj (Qc ?_))
 refine Qa (Ql rfl rfl) ?_
 have hb := Jd H; clear H
 obtain ⟨r13, e15, H⟩ := hb
 refine GoO.callF rfl (Qm _) (Qm _) (slices_Grow_Piece_spec ((n6 : Nat) : Int) e15) (Qq (Qp _ _) (Qq (Qp _ _) (Qz))) rfl nil_fps (fun rr HH hp => ?_)
 obtain ⟨β14, rfl, rfl⟩ := hp
 refine Qa (Qi rfl rfl) ?_
 refine Qo (Qe (Qj (Qj (Qc ?_))))
 refine Qa (Ql rfl rfl) ?_
 refine Qa (ps_len rfl (by constructor) rfl) ?_
 refine Qa (Ql rfl rfl) ?_
 refine Qo (Qe ?_)
 have hb := Jd H; clear H
 obtain ⟨l21, hl26, HK18⟩ := hb
 refine GoC.blockJ [] [] (fun v h => ∃ (β16 : BK), v = [(6, .own β16 2 0 l21.length)] ∧ h = [.one β16 128 2 (row l21)]) ?_ ?_
 refine GoC.loopJ [(25, _), (26, _)] [] (fun mQ v h => ∃ (k22 : Nat) (l17 : (List Piece)) (β16 : BK), (k22 + mQ = ss_.length ∧ forN (slices_Concat_Piece_B2 ss_) mQ k22 l17 = some l21) ∧ v = [(27, .v (.int .i64 ((k22 : Nat) : Int))), (6, .own β16 2 0 l17.length)] ∧ h = [.one β16 128 2 (row l17)]) ss_.length ⟨_, _, β14, ⟨by omega, hl26⟩, rfl, rfl⟩ (Qg rfl (Jm rfl (Jp (by first | rfl | omega | (simp only [row_len, gridC_len, rowO_len] <;> first | rfl | omega))) (Qg rfl (Qg rfl (Qy))))) (Qn _ _ _ _ _ Qk (Qr _) (Jb _)) ?_
 rintro m23 v h ⟨k22, l17, β16, ⟨hkk22, hF19⟩, rfl, rfl⟩
 refine Qj (Qc ?_)
 refine Qa (ps_lss rfl rfl rfl) ?_
 refine Qo (Qe (Qj ?_))
 refine Jc rfl (fun (hk22 : (k22 : Int) < ((ss_.length : Nat) : Int)) => ?_) (fun (hk22 : ¬ (k22 : Int) < ((ss_.length : Nat) : Int)) => ?_)
 obtain ⟨m23', rfl⟩ : ∃ x, m23 = x + 1 := ⟨m23 - 1, by omega⟩
 have hb := Jd hF19; clear hF19
 obtain ⟨qrm23, H, hF19⟩ := hb
 have hnk22 : k22 < ss_.length := by omega
 have hIk22 : InI ((k22 : Int) + 1) := inI_len hk22 ml1
 refine Jg (Qe (Qj (GoC.block (Qj (Qc ?_)))))
 refine Qa (ps_indexAddrRN rfl rfl hnk22 rfl) ?_
 refine Qa (ps_loadR rfl hnk22 rfl rfl) ?_
 refine Qa (Qi rfl rfl) ?_
 refine Qo (Qe (Qc ?_))
 refine Qa (Ql rfl rfl) ?_
 refine Qa (Ql rfl rfl) ?_
 have c25 := ck_l H; replace H := ck_r H
 refine Jq (ef_append rfl rfl Qk Src.sl (cat_row (α := Piece) (by first | rfl | omega | (simp only [szl] <;> first | rfl | omega)) (by first | rfl | omega | (simp only [szl] <;> first | rfl | omega)) (fun _ _ _ _ => rfl)) (by first | omega | (simp only [szl]; omega) | (simp only [szl]; done)) (app_le c25 rfl) rfl rfl rfl) (fun β24 => ?_)
 refine Qa (Qi rfl rfl) ?_
 refine Qo (GoK.blk (Qe (Qc ?_)))
 refine Qa (ps_add rfl rfl rfl hIk22) ?_
 refine Qa (Ql rfl rfl) ?_
 refine Qo ?_
 obtain rfl := Qf H
 exact GoK.againJ m23' (by omega) ⟨_, _, β24, ⟨by omega, hF19⟩, rfl, rfl⟩ (Qg rfl (Jm rfl (Jp (by first | rfl | omega | (simp only [row_len, gridC_len, rowO_len, List.length_append, List.length_cons, List.length_nil, List.length_nil] <;> first | rfl | omega))) (Qg rfl (Qg rfl (Qy))))) (Qn _ _ _ _ _ Qk (Qr _) (Jb _))
 obtain rfl : m23 = 0 := by omega
 refine GoC.exit rfl ?_
 cases hF19
 exact Jr ⟨β16, rfl, rfl⟩ (Jm rfl (Jp (by first | rfl | omega | (simp only [row_len, gridC_len, rowO_len] <;> first | rfl | omega))) (Qy)) (Qn _ _ _ _ _ Qk (Qr _) (Jb _))
 rintro v h ⟨β16, rfl, rfl⟩
 have H := HK18; clear HK18
 refine Qe (Qj (Qc ?_))
 refine Qa (Ql rfl rfl) ?_
 refine Qa (Qi rfl rfl) ?_
 refine Qo (Qe ?_)
 obtain rfl := Qf H
 exact Jh (ds := [.own β16 2 0 l21.length]) Tryd.results80 (Qt (Qv rfl) (Je)) (Qd _ _ _ _ _ Qk (Qm _)) ⟨β16, rfl, rfl⟩
def slices_Index_int_B1 (s_ : (List Int)) (v_ : Int) : Nat → Unit → Option (Ct (Unit) (Int)) := fun k5 _ =>
 if v_ = (s_.getD k5 (0 : Int)) then
  some (.ret ((k5 : Nat) : Int))
 else
  some (.go ())
def slices_Index_int_F (s_ : (List Int)) (v_ : Int) : Option (Int) :=
 (forC (slices_Index_int_B1 s_ v_) s_.length 0 ()).bind fun q => match q with
 | .go _ =>
  some (-1)
 | .ret x => some x
def slices_Index_int_P (out : Int) (d : D) (H : List HL) : Prop := d = .v (.int .i64 out) ∧ H = []
theorem slices_Index_int_I (out : Int) : IndepP (slices_Index_int_P out) := IndepP.of (by rintro _ _ ⟨rfl, rfl⟩; exact ⟨inferInstance, inferInstance⟩)
set_option maxRecDepth 100000 in
set_option maxHeartbeats 4000000 in
theorem slices_Index_int_spec (s_ : (List Int)) (v_ : Int) {out : Int} (H : slices_Index_int_F s_ v_ = some out) : Does Tryd.prog 95 [slD s_, .v (.int .i64 v_)] [] (slices_Index_int_P out) := by
 unfold slices_Index_int_F at H
 refine Does.intro Tryd.func95 rfl Tryd.ntmps95 rfl fun w0 I0 tb0 => ?_
 refine Qj (Qc ?_)
 refine Qa (Qi rfl rfl) ?_
 refine Qo (Qe (Qj (Qj (Qc ?_))))
 refine Qa (Ql rfl rfl) ?_
 refine Qa (ps_len rfl (by constructor) rfl) ?_
 refine GoO.lenLe (n := s_.length) (x := .tmp 6) rfl (by constructor) sl_lenLe (fun ml1 => ?_)
 refine Qa (Ql rfl rfl) ?_
 refine Qo (Qe ?_)
 have hb := Jd H; clear H
 obtain ⟨q4, hl8, HK2⟩ := hb
 refine GoC.blockJ [] [] (fun v h => q4 = .go () ∧ v = [] ∧ h = []) ?_ ?_
 refine GoC.loopJ [(0, _), (1, _), (7, _)] [] (fun mQ v h => ∃ (k5 : Nat), (k5 + mQ = s_.length ∧ forC (slices_Index_int_B1 s_ v_) mQ k5 () = some q4) ∧ v = [(8, .v (.int .i64 ((k5 : Nat) : Int)))] ∧ h = []) s_.length ⟨_, ⟨by omega, hl8⟩, rfl, rfl⟩ (Qg rfl (Qg rfl (Qg rfl (Qg rfl (Qy))))) (Jb _) ?_
 rintro m6 v h ⟨k5, ⟨hkk5, hF3⟩, rfl, rfl⟩
 refine Qj (Qc ?_)
 refine Qa (ps_lss rfl rfl rfl) ?_
 refine Qo (Qe (Qj ?_))
 refine Jc rfl (fun (hk5 : (k5 : Int) < ((s_.length : Nat) : Int)) => ?_) (fun (hk5 : ¬ (k5 : Int) < ((s_.length : Nat) : Int)) => ?_)
 obtain ⟨m6', rfl⟩ : ∃ x, m6 = x + 1 := ⟨m6 - 1, by omega⟩
 have hb := Jd hF3; clear hF3
 obtain ⟨qrm6, H, hF3⟩ := hb
 have hnk5 : k5 < s_.length := by omega
 have hIk5 : InI ((k5 : Int) + 1) := inI_len hk5 ml1
 refine Jg (Qe (Qj (GoC.block (Qj (Qc ?_)))))
 refine Qa (Ql rfl rfl) ?_
 refine Qa (Qi rfl rfl) ?_
 refine Qo (Qe (Qj (Qc ?_)))
 refine Qa (Ql rfl rfl) ?_
 refine Qa (Ql rfl rfl) ?_
 refine Qa (Ql rfl rfl) ?_
 refine Qa (ps_indexAddrRN rfl rfl hnk5 rfl) ?_
 refine Qa (ps_loadR rfl hnk5 rfl rfl) ?_
 refine Qa (ps_eql rfl rfl rfl) ?_
 refine Qo (Qe ?_)
 refine Jc rfl (fun h7 => ?_) (fun h7 => ?_)
 replace H := Jt h7 H
 refine Qj (Qc ?_)
 refine Qa (Ql rfl rfl) ?_
 refine Qa (Qi rfl rfl) ?_
 refine Qo (Qe ?_)
 obtain rfl := Qf H
 obtain rfl := Qf hF3
 obtain rfl := Qf HK2
 exact Jh (ds := [.v (.int .i64 ((k5 : Nat) : Int))]) Tryd.results95 (Qt (Qv rfl) (Je)) (Qm _) ⟨rfl, rfl⟩
 replace H := Ju h7 H
 refine Jg (GoK.blk (Qe (Qc ?_)))
 refine Qa (ps_add rfl rfl rfl hIk5) ?_
 refine Qa (Ql rfl rfl) ?_
 refine Qo ?_
 obtain rfl := Qf H
 exact GoK.againJ m6' (by omega) ⟨_, ⟨by omega, hF3⟩, rfl, rfl⟩ (Qg rfl (Qg rfl (Qg rfl (Qg rfl (Qy))))) (Jb _)
 obtain rfl : m6 = 0 := by omega
 refine GoC.exit rfl ?_
 cases hF3
 exact Jr ⟨rfl, rfl, rfl⟩ (Qy) (Jb _)
 rintro v h ⟨rfl, rfl, rfl⟩
 have H := HK2; clear HK2
 refine Qe (Qj (Qc ?_))
 refine Qa (Qi rfl rfl) ?_
 refine Qo (Qe ?_)
 obtain rfl := Qf H
 exact Jh (ds := [.v (.int .i64 (-1))]) Tryd.results95 (Qt (Qv rfl) (Je)) (Qm _) ⟨rfl, rfl⟩
def slices_Contains_int_F (s_ : (List Int)) (v_ : Int) : Option (Bool) :=
 (slices_Index_int_F s_ v_).bind fun r1 =>
 some (decide (0 ≤ r1))
def slices_Contains_int_P (out : Bool) (d : D) (H : List HL) : Prop := d = .v (.bool out) ∧ H = []
theorem slices_Contains_int_I (out : Bool) : IndepP (slices_Contains_int_P out) := IndepP.of (by rintro _ _ ⟨rfl, rfl⟩; exact ⟨inferInstance, inferInstance⟩)
set_option maxRecDepth 100000 in
set_option maxHeartbeats 4000000 in
theorem slices_Contains_int_spec (s_ : (List Int)) (v_ : Int) {out : Bool} (H : slices_Contains_int_F s_ v_ = some out) : Does Tryd.prog 81 [slD s_, .v (.int .i64 v_)] [] (slices_Contains_int_P out) := by
 unfold slices_Contains_int_F at H
 refine Does.intro Tryd.func81 rfl Tryd.ntmps81 rfl fun w0 I0 tb0 => ?_
 refine Qj (Qc ?_)
 refine Qa (Qi rfl rfl) ?_
 refine Qo (Qe (Qj (Qc ?_)))
 refine Qa (Ql rfl rfl) ?_
 refine Qa (Ql rfl rfl) ?_
 have hb := Jd H; clear H
 obtain ⟨r1, e2, H⟩ := hb
 refine GoO.effC (ef_call rfl (Qm _) (Qm _) (slices_Index_int_spec s_ v_ e2) (Qq (Qp _ _) (Qq (Qp _ _) (Qz))) rfl (slices_Index_int_I (r1))) (fun rr HH hp => ?_)
 obtain ⟨rfl, rfl⟩ := hp
 refine Qa (ps_geq rfl rfl rfl) ?_
 refine Qa (Qi rfl rfl) ?_
 refine Qo (Qe ?_)
 obtain rfl := Qf H
 exact Jh (ds := [.v (.bool (decide (0 ≤ r1)))]) Tryd.results81 (Qt (Qv rfl) (Je)) (Qm _) ⟨rfl, rfl⟩
def slices_Delete_Arc_F (l : (List Arc)) (i j : Int) : Option (List Arc) := ck (0 ≤ i) <| ck (i ≤ j) <| ck (j ≤ (l.length : Int)) <| ck (l.length ≤ 5864062014805) <| some (del l i.toNat j.toNat)
def slices_Delete_Arc_P (out : (List Arc)) (βl : BK) (d : D) (H : List HL) : Prop := ∃ β1 : BK, d = .own β1 3 0 out.length ∧ H = [.one β1 83 3 (row out)]
theorem slices_Delete_Arc_I (out : (List Arc)) (βl : BK) : IndepP (slices_Delete_Arc_P out βl) := IndepP.of (by rintro _ _ ⟨β1, rfl, rfl⟩; exact ⟨inferInstance, inferInstance⟩)
set_option maxRecDepth 100000 in
set_option maxHeartbeats 4000000 in
theorem slices_Delete_Arc_spec (l : (List Arc)) (i j : Int) (βl : BK) {out : (List Arc)} (H : slices_Delete_Arc_F l i j = some out) : Does Tryd.prog 82 [.own βl 3 0 l.length, .v (.int .i64 i), .v (.int .i64 j)] [.one βl 83 3 (row l)] (slices_Delete_Arc_P out βl) := by
 unfold slices_Delete_Arc_F at H
 have c1 := ck_l H; replace H := ck_r H
 have c2 := ck_l H; replace H := ck_r H
 have c3 := ck_l H; replace H := ck_r H
 have c4 := ck_l H; replace H := ck_r H
 obtain rfl := Qf H
 obtain ⟨a, rfl⟩ := Int.eq_ofNat_of_zero_le c1
 obtain ⟨b, rfl⟩ := Int.eq_ofNat_of_zero_le (Int.le_trans c1 c2)
 simp only [Int.ofNat_eq_natCast, Int.toNat_natCast] at *
 have ab : a ≤ b := by omega
 have bl : b ≤ l.length := by omega
 have dl : (del l a b).length = a + (l.length - b) := del_length (by omega)
 refine Does.intro Tryd.func82 rfl Tryd.ntmps82 rfl fun w0 I0 tb0 => ?_
 refine Qj (Qc ?_)
 refine Qa (Qi rfl rfl) ?_
 refine Qo (Qe ?_)
 refine GoC.exactJ 0 rfl fun ad m hE => ?_
 have lm := hE.le
 refine Qj (Qc ?_)
 refine Qa (Ql rfl rfl) ?_
 refine Qa (Ql rfl rfl) ?_
 refine Qa (Ql rfl rfl) ?_
 refine Qa (Ql rfl rfl) ?_
 refine Qa (ps_len rfl (by constructor) rfl) ?_
 refine Qa (ps_slice3J rfl rfl rfl rfl ab bl lm rfl) ?_
 refine Qo (Qe (Qj (Qj (Qc ?_))))
 refine Qa (Ql rfl rfl) ?_
 refine Qa (Ql rfl rfl) ?_
 refine Qa (ps_eql rfl rfl rfl) ?_
 refine Qo (Qe ?_)
 refine Jc rfl (fun (hc : (a : Int) = (b : Int)) => ?_) (fun (hc : ¬ (a : Int) = (b : Int)) => ?_)
 refine Qj (Qc ?_)
 refine Qa (Ql rfl rfl) ?_
 refine Qa (Qi rfl rfl) ?_
 refine Qo (Qe ?_)
 have ab' : a = b := by omega
 have ed : del l a b = l := by rw [← ab']; exact List.take_append_drop a l
 rw [ed]
 exact Jh (ds := [.own βl 3 0 l.length]) Tryd.results82 (Qt (ResD.le (Qv rfl) (DLe.exact hE)) (Je)) (Qd _ _ _ _ _ Qk (Qm _)) ⟨βl, rfl, rfl⟩
 refine Jg (Qe ?_)
 have m0 : 0 < m := by omega
 refine Qj (Qc ?_)
 refine Qa (Ql rfl rfl) ?_
 refine Qa (ps_len rfl (by constructor) rfl) ?_
 refine Qa (Qi rfl rfl) ?_
 refine Qo (Qe (Qj ?_))
 refine GoC.drawP (.q 0 (.q 1 (.q 2 (.q 3 (.q 4 (.q 5 (.one 6 (.q 7 (.done))))))))) [] follows (by kernel_rfl) (Qm _) ?_
 refine Qx rfl (Ql rfl rfl) ?_
 refine Qx rfl (Ql rfl rfl) ?_
 refine Qx rfl (ps_sliceTo hE rfl rfl (by omega) rfl) ?_
 refine Qx rfl (Ql rfl rfl) ?_
 refine Qx rfl (Ql rfl rfl) ?_
 refine Qx rfl (ps_sliceOff hE rfl rfl (Bd.no _) bl lm rfl) ?_
 refine GoP.one1 rfl Qs (ef_appendIn (hE.cut (show a ≤ m by omega)) rfl rfl Qw (cat_del (α := Arc) (xs := l) (i := a) (j := b) (by omega)) (by simp only [row_len]; omega) (by simp only [row_len]; omega) (by omega) m0 (by omega) (by decide) rfl) (Qd _ _ _ _ _ Qk (Qm _)) ?_
 refine Qx rfl (Qi rfl rfl) ?_
 refine GoP.done ?_
 refine Qe (Qj (Qc ?_))
 refine Qa (Ql rfl rfl) ?_
 refine Qa (Ql rfl rfl) ?_
 refine Qa (ps_len rfl (by constructor) rfl) ?_
 refine Qa (Ql rfl rfl) ?_
 refine Qa (ps_sliceOff (hE.cut (show a + (l.length - b) ≤ m by omega)) rfl rfl (Bd.nat _ _ l.length _ rfl) (by omega) lm rfl) ?_
 refine GoO.eff1 (ef_clear rfl Qw (by simp only [row_len]; omega) (by decide)) ?_
 refine Qo (Qe (Qj (Qc ?_)))
 refine Qa (Ql rfl rfl) ?_
 refine Qa (Qi rfl rfl) ?_
 refine Qo (Qe ?_)
 have hE2 := hE.cut (show a + (l.length - b) ≤ m by omega)
 rw [← dl] at hE2
 exact Jh (ds := [.own βl 3 0 (del l a b).length]) Tryd.results82 (Qt (ResD.le (Qv rfl) (by rw [← dl]; exact DLe.exact hE2)) (Je)) (Qd _ _ _ _ _ Qk (Qm _)) ⟨βl, rfl, rfl⟩
def slices_Delete_int_F (l : (List Int)) (i j : Int) : Option (List Int) := ck (0 ≤ i) <| ck (i ≤ j) <| ck (j ≤ (l.length : Int)) <| ck (l.length ≤ 17592186044416) <| some (del l i.toNat j.toNat)
def slices_Delete_int_P (out : (List Int)) (βl : BK) (d : D) (H : List HL) : Prop := ∃ β1 : BK, d = .own β1 1 0 out.length ∧ H = [.one β1 3 1 (row out)]
theorem slices_Delete_int_I (out : (List Int)) (βl : BK) : IndepP (slices_Delete_int_P out βl) := IndepP.of (by rintro _ _ ⟨β1, rfl, rfl⟩; exact ⟨inferInstance, inferInstance⟩)
set_option maxRecDepth 100000 in
set_option maxHeartbeats 4000000 in
theorem slices_Delete_int_spec (l : (List Int)) (i j : Int) (βl : BK) {out : (List Int)} (H : slices_Delete_int_F l i j = some out) : Does Tryd.prog 83 [.own βl 1 0 l.length, .v (.int .i64 i), .v (.int .i64 j)] [.one βl 3 1 (row l)] (slices_Delete_int_P out βl) := by
 unfold slices_Delete_int_F at H
 have c1 := ck_l H; replace H := ck_r H
 have c2 := ck_l H; replace H := ck_r H
 have c3 := ck_l H; replace H := ck_r H
 have c4 := ck_l H; replace H := ck_r H
 obtain rfl := Qf H
 obtain ⟨a, rfl⟩ := Int.eq_ofNat_of_zero_le c1
 obtain ⟨b, rfl⟩ := Int.eq_ofNat_of_zero_le (Int.le_trans c1 c2)
 simp only [Int.ofNat_eq_natCast, Int.toNat_natCast] at *
 have ab : a ≤ b := by omega
 have bl : b ≤ l.length := by omega
 have dl : (del l a b).length = a + (l.length - b) := del_length (by omega)
 refine Does.intro Tryd.func83 rfl Tryd.ntmps83 rfl fun w0 I0 tb0 => ?_
 refine Qj (Qc ?_)
 refine Qa (Qi rfl rfl) ?_
 refine Qo (Qe ?_)
 refine GoC.exactJ 0 rfl fun ad m hE => ?_
 have lm := hE.le
 refine Qj (Qc ?_)
 refine Qa (Ql rfl rfl) ?_
 refine Qa (Ql rfl rfl) ?_
 refine Qa (Ql rfl rfl) ?_
 refine Qa (Ql rfl rfl) ?_
 refine Qa (ps_len rfl (by constructor) rfl) ?_
 refine Qa (ps_slice3J rfl rfl rfl rfl ab bl lm rfl) ?_
 refine Qo (Qe (Qj (Qj (Qc ?_))))
 refine Qa (Ql rfl rfl) ?_
 refine Qa (Ql rfl rfl) ?_
 refine Qa (ps_eql rfl rfl rfl) ?_
 refine Qo (Qe ?_)
 refine Jc rfl (fun (hc : (a : Int) = (b : Int)) => ?_) (fun (hc : ¬ (a : Int) = (b : Int)) => ?_)
 refine Qj (Qc ?_)
 refine Qa (Ql rfl rfl) ?_
 refine Qa (Qi rfl rfl) ?_
 refine Qo (Qe ?_)
 have ab' : a = b := by omega
 have ed : del l a b = l := by rw [← ab']; exact List.take_append_drop a l
 rw [ed]
 exact Jh (ds := [.own βl 1 0 l.length]) Tryd.results83 (Qt (ResD.le (Qv rfl) (DLe.exact hE)) (Je)) (Qd _ _ _ _ _ Qk (Qm _)) ⟨βl, rfl, rfl⟩
 refine Jg (Qe ?_)
 have m0 : 0 < m := by omega
 refine Qj (Qc ?_)
 refine Qa (Ql rfl rfl) ?_
 refine Qa (ps_len rfl (by constructor) rfl) ?_
 refine Qa (Qi rfl rfl) ?_
 refine Qo (Qe (Qj ?_))
 refine GoC.drawP (.q 0 (.q 1 (.q 2 (.q 3 (.q 4 (.q 5 (.one 6 (.q 7 (.done))))))))) [] follows (by kernel_rfl) (Qm _) ?_
 refine Qx rfl (Ql rfl rfl) ?_
 refine Qx rfl (Ql rfl rfl) ?_
 refine Qx rfl (ps_sliceTo hE rfl rfl (by omega) rfl) ?_
 refine Qx rfl (Ql rfl rfl) ?_
 refine Qx rfl (Ql rfl rfl) ?_
 refine Qx rfl (ps_sliceOff hE rfl rfl (Bd.no _) bl lm rfl) ?_
 refine GoP.one1 rfl Qs (ef_appendIn (hE.cut (show a ≤ m by omega)) rfl rfl Qw (cat_del (α := Int) (xs := l) (i := a) (j := b) (by omega)) (by simp only [row_len]; omega) (by simp only [row_len]; omega) (by omega) m0 (by omega) (by decide) rfl) (Qd _ _ _ _ _ Qk (Qm _)) ?_
 refine Qx rfl (Qi rfl rfl) ?_
 refine GoP.done ?_
 refine Qe (Qj (Qc ?_))
 refine Qa (Ql rfl rfl) ?_
 refine Qa (Ql rfl rfl) ?_
 refine Qa (ps_len rfl (by constructor) rfl) ?_
 refine Qa (Ql rfl rfl) ?_
 refine Qa (ps_sliceOff (hE.cut (show a + (l.length - b) ≤ m by omega)) rfl rfl (Bd.nat _ _ l.length _ rfl) (by omega) lm rfl) ?_
 refine GoO.eff1 (ef_clear rfl Qw (by simp only [row_len]; omega) (by decide)) ?_
 refine Qo (Qe (Qj (Qc ?_)))
 refine Qa (Ql rfl rfl) ?_
 refine Qa (Qi rfl rfl) ?_
 refine Qo (Qe ?_)
 have hE2 := hE.cut (show a + (l.length - b) ≤ m by omega)
 rw [← dl] at hE2
 exact Jh (ds := [.own βl 1 0 (del l a b).length]) Tryd.results83 (Qt (ResD.le (Qv rfl) (by rw [← dl]; exact DLe.exact hE2)) (Je)) (Qd _ _ _ _ _ Qk (Qm _)) ⟨βl, rfl, rfl⟩
def slices_Index_string_B1 (s_ : (List ByteArray)) (v_ : ByteArray) : Nat → Unit → Option (Ct (Unit) (Int)) := fun k5 _ =>
 if v_ = (s_.getD k5 El.d) then
  some (.ret ((k5 : Nat) : Int))
 else
  some (.go ())
def slices_Index_string_F (s_ : (List ByteArray)) (v_ : ByteArray) : Option (Int) :=
 (forC (slices_Index_string_B1 s_ v_) s_.length 0 ()).bind fun q => match q with
 | .go _ =>
  some (-1)
 | .ret x => some x
def slices_Index_string_P (out : Int) (d : D) (H : List HL) : Prop := d = .v (.int .i64 out) ∧ H = []
theorem slices_Index_string_I (out : Int) : IndepP (slices_Index_string_P out) := IndepP.of (by rintro _ _ ⟨rfl, rfl⟩; exact ⟨inferInstance, inferInstance⟩)
set_option maxRecDepth 100000 in
set_option maxHeartbeats 4000000 in
theorem slices_Index_string_spec (s_ : (List ByteArray)) (v_ : ByteArray) {out : Int} (H : slices_Index_string_F s_ v_ = some out) : Does Tryd.prog 85 [slD s_, .v (.string v_)] [] (slices_Index_string_P out) := by
 unfold slices_Index_string_F at H
 refine Does.intro Tryd.func85 rfl Tryd.ntmps85 rfl fun w0 I0 tb0 => ?_
 refine Qj (Qc ?_)
 refine Qa (Qi rfl rfl) ?_
 refine Qo (Qe (Qj (Qj (Qc ?_))))
 refine Qa (Ql rfl rfl) ?_
 refine Qa (ps_len rfl (by constructor) rfl) ?_
 refine GoO.lenLe (n := s_.length) (x := .tmp 6) rfl (by constructor) sl_lenLe (fun ml1 => ?_)
 refine Qa (Ql rfl rfl) ?_
 refine Qo (Qe ?_)
 have hb := Jd H; clear H
 obtain ⟨q4, hl8, HK2⟩ := hb
 refine GoC.blockJ [] [] (fun v h => q4 = .go () ∧ v = [] ∧ h = []) ?_ ?_
 refine GoC.loopJ [(0, _), (1, _), (7, _)] [] (fun mQ v h => ∃ (k5 : Nat), (k5 + mQ = s_.length ∧ forC (slices_Index_string_B1 s_ v_) mQ k5 () = some q4) ∧ v = [(8, .v (.int .i64 ((k5 : Nat) : Int)))] ∧ h = []) s_.length ⟨_, ⟨by omega, hl8⟩, rfl, rfl⟩ (Qg rfl (Qg rfl (Qg rfl (Qg rfl (Qy))))) (Jb _) ?_
 rintro m6 v h ⟨k5, ⟨hkk5, hF3⟩, rfl, rfl⟩
 refine Qj (Qc ?_)
 refine Qa (ps_lss rfl rfl rfl) ?_
 refine Qo (Qe (Qj ?_))
 refine Jc rfl (fun (hk5 : (k5 : Int) < ((s_.length : Nat) : Int)) => ?_) (fun (hk5 : ¬ (k5 : Int) < ((s_.length : Nat) : Int)) => ?_)
 obtain ⟨m6', rfl⟩ : ∃ x, m6 = x + 1 := ⟨m6 - 1, by omega⟩
 have hb := Jd hF3; clear hF3
 obtain ⟨qrm6, H, hF3⟩ := hb
 have hnk5 : k5 < s_.length := by omega
 have hIk5 : InI ((k5 : Int) + 1) := inI_len hk5 ml1
 refine Jg (Qe (Qj (GoC.block (Qj (Qc ?_)))))
 refine Qa (Ql rfl rfl) ?_
 refine Qa (Qi rfl rfl) ?_
 refine Qo (Qe (Qj (Qc ?_)))
 refine Qa (Ql rfl rfl) ?_
 refine Qa (Ql rfl rfl) ?_
 refine Qa (Ql rfl rfl) ?_
 refine Qa (ps_indexAddrRN rfl rfl hnk5 rfl) ?_
 refine Qa (ps_loadR rfl hnk5 rfl rfl) ?_
 refine Qa (ps_eqlStr rfl rfl rfl) ?_
 refine Qo (Qe ?_)
 refine Jc rfl (fun h7 => ?_) (fun h7 => ?_)
 replace H := Jt h7 H
 refine Qj (Qc ?_)
 refine Qa (Ql rfl rfl) ?_
 refine Qa (Qi rfl rfl) ?_
 refine Qo (Qe ?_)
 obtain rfl := Qf H
 obtain rfl := Qf hF3
 obtain rfl := Qf HK2
 exact Jh (ds := [.v (.int .i64 ((k5 : Nat) : Int))]) Tryd.results85 (Qt (Qv rfl) (Je)) (Qm _) ⟨rfl, rfl⟩
 replace H := Ju h7 H
 refine Jg (GoK.blk (Qe (Qc ?_)))
 refine Qa (ps_add rfl rfl rfl hIk5) ?_
 refine Qa (Ql rfl rfl) ?_
 refine Qo ?_
 obtain rfl := Qf H
 exact GoK.againJ m6' (by omega) ⟨_, ⟨by omega, hF3⟩, rfl, rfl⟩ (Qg rfl (Qg rfl (Qg rfl (Qg rfl (Qy))))) (Jb _)
 obtain rfl : m6 = 0 := by omega
 refine GoC.exit rfl ?_
 cases hF3
 exact Jr ⟨rfl, rfl, rfl⟩ (Qy) (Jb _)
 rintro v h ⟨rfl, rfl, rfl⟩
 have H := HK2; clear HK2
 refine Qe (Qj (Qc ?_))
 refine Qa (Qi rfl rfl) ?_
 refine Qo (Qe ?_)
 obtain rfl := Qf H
 exact Jh (ds := [.v (.int .i64 (-1))]) Tryd.results85 (Qt (Qv rfl) (Je)) (Qm _) ⟨rfl, rfl⟩
def slices_Equal_string_B1 (s1_ : (List ByteArray)) (s2_ : (List ByteArray)) : Nat → Unit → Option (Ct (Unit) (Bool)) := fun k7 _ =>
 ck (k7 < s2_.length) <|
 if (s1_.getD k7 El.d) ≠ (s2_.getD k7 El.d) then
  some (.ret false)
 else
  some (.go ())
def slices_Equal_string_F (s1_ : (List ByteArray)) (s2_ : (List ByteArray)) : Option (Bool) :=
 if ((s1_.length : Nat) : Int) ≠ ((s2_.length : Nat) : Int) then
  some false
 else
  (forC (slices_Equal_string_B1 s1_ s2_) s1_.length 0 ()).bind fun q => match q with
  | .go _ =>
   some true
  | .ret x => some x
def slices_Equal_string_P (out : Bool) (d : D) (H : List HL) : Prop := d = .v (.bool out) ∧ H = []
theorem slices_Equal_string_I (out : Bool) : IndepP (slices_Equal_string_P out) := IndepP.of (by rintro _ _ ⟨rfl, rfl⟩; exact ⟨inferInstance, inferInstance⟩)
set_option maxRecDepth 100000 in
set_option maxHeartbeats 4000000 in
theorem slices_Equal_string_spec (s1_ : (List ByteArray)) (s2_ : (List ByteArray)) {out : Bool} (H : slices_Equal_string_F s1_ s2_ = some out) : Does Tryd.prog 6 [slD s1_, slD s2_] [] (slices_Equal_string_P out) := by
 unfold slices_Equal_string_F at H
 refine Does.intro Tryd.func6 rfl Tryd.ntmps6 rfl fun w0 I0 tb0 => ?_
 refine Qj (Qc ?_)
 refine Qa (Qi rfl rfl) ?_
 refine Qo (Qe (Qj (Qj (Qc ?_))))
 refine Qa (Ql rfl rfl) ?_
 refine Qa (ps_len rfl (by constructor) rfl) ?_
 refine GoO.lenLe (n := s1_.length) (x := .tmp 6) rfl (by constructor) sl_lenLe (fun ml1 => ?_)
 refine Qa (Ql rfl rfl) ?_
 refine Qa (ps_len rfl (by constructor) rfl) ?_
 refine GoO.lenLe (n := s2_.length) (x := .tmp 8) rfl (by constructor) sl_lenLe (fun ml2 => ?_)
 refine Qa (ps_neq rfl rfl rfl) ?_
 refine Qo (Qe ?_)
 refine Jc rfl (fun h3 => ?_) (fun h3 => ?_)
 replace H := Jt h3 H
 refine Qj (Qc ?_)
 refine Qa (Qi rfl rfl) ?_
 refine Qo (Qe ?_)
 obtain rfl := Qf H
 exact Jh (ds := [.v (.bool false)]) Tryd.results6 (Qt (Qv rfl) (Je)) (Qm _) ⟨rfl, rfl⟩
 replace H := Ju h3 H
 refine Jg (Qe (Qj (Qj (Qc ?_))))
 refine Qa (Ql rfl rfl) ?_
 refine Qa (ps_len rfl (by constructor) rfl) ?_
 refine Qa (Ql rfl rfl) ?_
 refine Qo (Qe ?_)
 have hb := Jd H; clear H
 obtain ⟨q6, hl11, HK4⟩ := hb
 refine GoC.blockJ [] [] (fun v h => q6 = .go () ∧ v = [] ∧ h = []) ?_ ?_
 refine GoC.loopJ [(0, _), (1, _), (12, _)] [] (fun mQ v h => ∃ (k7 : Nat), (k7 + mQ = s1_.length ∧ forC (slices_Equal_string_B1 s1_ s2_) mQ k7 () = some q6) ∧ v = [(13, .v (.int .i64 ((k7 : Nat) : Int)))] ∧ h = []) s1_.length ⟨_, ⟨by omega, hl11⟩, rfl, rfl⟩ (Qg rfl (Qg rfl (Qg rfl (Qg rfl (Qy))))) (Jb _) ?_
 rintro m8 v h ⟨k7, ⟨hkk7, hF5⟩, rfl, rfl⟩
 refine Qj (Qc ?_)
 refine Qa (ps_lss rfl rfl rfl) ?_
 refine Qo (Qe (Qj ?_))
 refine Jc rfl (fun (hk7 : (k7 : Int) < ((s1_.length : Nat) : Int)) => ?_) (fun (hk7 : ¬ (k7 : Int) < ((s1_.length : Nat) : Int)) => ?_)
 obtain ⟨m8', rfl⟩ : ∃ x, m8 = x + 1 := ⟨m8 - 1, by omega⟩
 have hb := Jd hF5; clear hF5
 obtain ⟨qrm8, H, hF5⟩ := hb
 have hnk7 : k7 < s1_.length := by omega
 have hIk7 : InI ((k7 : Int) + 1) := inI_len hk7 ml1
 refine Jg (Qe (Qj (GoC.block (Qj (Qc ?_)))))
 refine Qa (Ql rfl rfl) ?_
 refine Qa (Qi rfl rfl) ?_
 refine Qo (Qe (Qj ?_))
 refine GoC.drawA (.q 0 (.q 1 (.q 2 (.q 3 (.q 4 (.q 5 (.q 6 (.q 7 (.q 8 (.done)))))))))) follows (by kernel_rfl) ?_
 refine Qx rfl (Ql rfl rfl) ?_
 refine Qx rfl (Ql rfl rfl) ?_
 refine Qx rfl (ps_indexAddrRN rfl rfl hnk7 rfl) ?_
 refine Qx rfl (ps_loadR rfl hnk7 rfl rfl) ?_
 refine Qx rfl (Ql rfl rfl) ?_
 refine Qx rfl (Ql rfl rfl) ?_
 have c9 := ck_l H; replace H := ck_r H
 refine Qx rfl (ps_indexAddrRN rfl rfl c9 rfl) ?_
 refine Qx rfl (ps_loadR rfl c9 rfl rfl) ?_
 refine Qx rfl (ps_neqStr rfl rfl rfl) ?_
 refine GoP.done ?_
 refine Qe ?_
 refine Jc rfl (fun h10 => ?_) (fun h10 => ?_)
 replace H := Jt h10 H
 refine Qj (Qc ?_)
 refine Qa (Qi rfl rfl) ?_
 refine Qo (Qe ?_)
 obtain rfl := Qf H
 obtain rfl := Qf hF5
 obtain rfl := Qf HK4
 exact Jh (ds := [.v (.bool false)]) Tryd.results6 (Qt (Qv rfl) (Je)) (Qm _) ⟨rfl, rfl⟩
 replace H := Ju h10 H
 refine Jg (GoK.blk (Qe (Qc ?_)))
 refine Qa (ps_add rfl rfl rfl hIk7) ?_
 refine Qa (Ql rfl rfl) ?_
 refine Qo ?_
 obtain rfl := Qf H
 exact GoK.againJ m8' (by omega) ⟨_, ⟨by omega, hF5⟩, rfl, rfl⟩ (Qg rfl (Qg rfl (Qg rfl (Qg rfl (Qy))))) (Jb _)
 obtain rfl : m8 = 0 := by omega
 refine GoC.exit rfl ?_
 cases hF5
 exact Jr ⟨rfl, rfl, rfl⟩ (Qy) (Jb _)
 rintro v h ⟨rfl, rfl, rfl⟩
 have H := HK4; clear HK4
 refine Qe (Qj (Qc ?_))
 refine Qa (Qi rfl rfl) ?_
 refine Qo (Qe ?_)
 obtain rfl := Qf H
 exact Jh (ds := [.v (.bool true)]) Tryd.results6 (Qt (Qv rfl) (Je)) (Qm _) ⟨rfl, rfl⟩
end Go.Proofs.YthchdnemndolbaaDoor
