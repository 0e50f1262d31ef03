import Derived.Test.YthchdnemndolbaaDoorQTys
import Derived.Test.YthchdnemndolbaaDoorQDat
namespace Go.Proofs.YthchdnemndolbaaDoor
open Go Go.Proofs.YthchdnemndolbaaDoor.Sx
set_option linter.unusedVariables false
set_option linter.unusedSimpArgs false
def assign_Check_B2 (gain : (List (List Int))) (k6 : Nat) : Nat → Unit → Option (Ct (Unit) (Ct (Unit) (Int))) := fun k13 _ =>
 if ((gain.getD k6 []).getD k13 (0 : Int)) < (-1000) then
  some (.ret (.ret 1))
 else
  if 1000 < ((gain.getD k6 []).getD k13 (0 : Int)) then
   some (.ret (.ret 1))
  else
   some (.go ())
def assign_Check_B1 (gain : (List (List Int))) : Nat → Unit → Option (Ct (Unit) (Int)) := fun k6 _ =>
 if (((gain.getD k6 []).length : Nat) : Int) ≠ ((gain.length : Nat) : Int) then
  some (.ret 3)
 else
  (forC (assign_Check_B2 gain k6) ((gain.getD k6 []).length) 0 ()).bind fun q => match q with
  | .go _ =>
   some (.go ())
  | .ret x => some x
def assign_Check_F (gain : (List (List Int))) : Option (Int) :=
 if 6 < ((gain.length : Nat) : Int) then
  some 2
 else
  (forC (assign_Check_B1 gain) gain.length 0 ()).bind fun q => match q with
  | .go _ =>
   some 0
  | .ret x => some x
def assign_Check_P (out : Int) (d : D) (H : List HL) : Prop := d = .v (.int .i64 out) ∧ H = []
theorem assign_Check_I (out : Int) : IndepP (assign_Check_P out) := IndepP.of (by rintro _ _ ⟨rfl, rfl⟩; exact ⟨inferInstance, inferInstance⟩)
set_option maxRecDepth 100000 in
set_option maxHeartbeats 4000000 in
theorem assign_Check_spec (gain : (List (List Int))) {out : Int} (H : assign_Check_F gain = some out) : Does Tryd.prog 45 [slD gain] [] (assign_Check_P out) := by
 unfold assign_Check_F at H
 refine Does.intro Tryd.func45 rfl Tryd.ntmps45 rfl fun w0 I0 tb0 => ?_
 refine Qj (Qc ?_)
 refine Qa (Qi rfl rfl) ?_
 refine Qo (Qe (Qj (Qj (Qc ?_))))
 refine Qa (Ql rfl rfl) ?_
 refine Qa (ps_len rfl (by constructor) rfl) ?_
 refine GoO.lenLe (n := gain.length) (x := .tmp 7) rfl (by constructor) sl_lenLe (fun ml1 => ?_)
 refine Qa (ps_gtr rfl rfl rfl) ?_
 refine Qo (Qe ?_)
 refine Jc rfl (fun h2 => ?_) (fun h2 => ?_)
 replace H := Jt h2 H
 refine Qj (Qc ?_)
 refine Qa (Qi rfl rfl) ?_
 refine Qo (Qe ?_)
 obtain rfl := Qf H
 exact Jh (ds := [.v (.int .i64 2)]) Tryd.results45 (Qt (Qv rfl) (Je)) (Qm _) ⟨rfl, rfl⟩
 replace H := Ju h2 H
 refine Jg (Qe (Qj (Qj (Qc ?_))))
 refine Qa (Ql rfl rfl) ?_
 refine Qa (ps_len rfl (by constructor) rfl) ?_
 refine Qa (Ql rfl rfl) ?_
 refine Qo (Qe ?_)
 have hb := Jd H; clear H
 obtain ⟨q5, hl18, HK3⟩ := hb
 refine GoC.blockJ [] [] (fun v h => q5 = .go () ∧ v = [] ∧ h = []) ?_ ?_
 refine GoC.loopJ [(0, _), (10, _), (11, _)] [] (fun mQ v h => ∃ (k6 : Nat), (k6 + mQ = gain.length ∧ forC (assign_Check_B1 gain) mQ k6 () = some q5) ∧ v = [(12, .v (.int .i64 ((k6 : Nat) : Int)))] ∧ h = []) gain.length ⟨_, ⟨by omega, hl18⟩, rfl, rfl⟩ (Qg rfl (Qg rfl (Qg rfl (Qg rfl (Qy))))) (Jb _) ?_
 rintro m7 v h ⟨k6, ⟨hkk6, hF4⟩, rfl, rfl⟩
 refine Qj (Qc ?_)
 refine Qa (ps_lss rfl rfl rfl) ?_
 refine Qo (Qe (Qj ?_))
 refine Jc rfl (fun (hk6 : (k6 : Int) < ((gain.length : Nat) : Int)) => ?_) (fun (hk6 : ¬ (k6 : Int) < ((gain.length : Nat) : Int)) => ?_)
 obtain ⟨m7', rfl⟩ : ∃ x, m7 = x + 1 := ⟨m7 - 1, by omega⟩
 have hb := Jd hF4; clear hF4
 obtain ⟨qrm7, H, hF4⟩ := hb
 have hnk6 : k6 < gain.length := by omega
 have hIk6 : InI ((k6 : Int) + 1) := inI_len hk6 ml1
 refine Jg (Qe (Qj (GoC.block (Qj (Qc ?_)))))
 refine Qa (ps_indexAddrRN rfl rfl hnk6 rfl) ?_
 refine Qa (ps_loadR rfl hnk6 rfl rfl) ?_
 refine Qa (Qi rfl rfl) ?_
 refine Qo (Qe (Qj (Qj (Qc ?_))))
 refine Qa (Ql rfl rfl) ?_
 refine Qa (ps_len rfl (by constructor) rfl) ?_
 refine GoO.lenLe (n := (gain.getD k6 []).length) (x := .tmp 16) rfl (by constructor) sl_lenLe (fun ml8 => ?_)
 refine Qa (Ql rfl rfl) ?_
 refine Qa (ps_len rfl (by constructor) rfl) ?_
 refine Qa (ps_neq rfl rfl rfl) ?_
 refine Qo (Qe ?_)
 refine Jc rfl (fun h9 => ?_) (fun h9 => ?_)
 replace H := Jt h9 H
 refine Qj (Qc ?_)
 refine Qa (Qi rfl rfl) ?_
 refine Qo (Qe ?_)
 obtain rfl := Qf H
 obtain rfl := Qf hF4
 obtain rfl := Qf HK3
 exact Jh (ds := [.v (.int .i64 3)]) Tryd.results45 (Qt (Qv rfl) (Je)) (Qm _) ⟨rfl, rfl⟩
 replace H := Ju h9 H
 refine Jg (Qe (Qj (Qc ?_)))
 refine Qa (Ql rfl rfl) ?_
 refine Qa (ps_len rfl (by constructor) rfl) ?_
 refine Qa (Ql rfl rfl) ?_
 refine Qo (Qe ?_)
 have hb := Jd H; clear H
 obtain ⟨q12, hl17, HK10⟩ := hb
 refine GoC.blockJ [(0, slD gain), (10, slD gain), (11, .v (.int .i64 ((gain.length : Nat) : Int))), (12, .v (.int .i64 ((k6 : Nat) : Int)))] [] (fun v h => q12 = .go () ∧ v = [] ∧ h = []) ?_ ?_
 refine GoC.loopJ [(0, _), (10, _), (11, _), (12, _), (21, _), (22, _)] [] (fun mQ v h => ∃ (k13 : Nat), (k13 + mQ = (gain.getD k6 []).length ∧ forC (assign_Check_B2 gain k6) mQ k13 () = some q12) ∧ v = [(23, .v (.int .i64 ((k13 : Nat) : Int)))] ∧ h = []) ((gain.getD k6 []).length) ⟨_, ⟨by omega, hl17⟩, rfl, rfl⟩ (Qg rfl (Qg rfl (Qg rfl (Qg rfl (Qg rfl (Qg rfl (Qg rfl (Qy)))))))) (Jb _) ?_
 rintro m14 v h ⟨k13, ⟨hkk13, hF11⟩, rfl, rfl⟩
 refine Qj (Qc ?_)
 refine Qa (ps_lss rfl rfl rfl) ?_
 refine Qo (Qe (Qj ?_))
 refine Jc rfl (fun (hk13 : (k13 : Int) < (((gain.getD k6 []).length : Nat) : Int)) => ?_) (fun (hk13 : ¬ (k13 : Int) < (((gain.getD k6 []).length : Nat) : Int)) => ?_)
 obtain ⟨m14', rfl⟩ : ∃ x, m14 = x + 1 := ⟨m14 - 1, by omega⟩
 have hb := Jd hF11; clear hF11
 obtain ⟨qrm14, H, hF11⟩ := hb
 have hnk13 : k13 < (gain.getD k6 []).length := by omega
 have hIk13 : InI ((k13 : Int) + 1) := inI_len hk13 ml8
 refine Jg (Qe (Qj (GoC.block (Qj (Qc ?_)))))
 refine Qa (ps_indexAddrRN rfl rfl hnk13 rfl) ?_
 refine Qa (ps_loadR rfl hnk13 rfl rfl) ?_
 refine Qa (Qi rfl rfl) ?_
 refine Qo (Qe (Qj (Qc ?_)))
 refine Qa (Ql rfl rfl) ?_
 refine Qa (ps_lss rfl rfl rfl) ?_
 refine Qa (Ql rfl rfl) ?_
 refine GoO.guardE rfl rfl rfl rfl (fun h15 => ?_) (fun h15 => ?_)
 replace H := Ju h15 H
 refine Qa (Ql rfl rfl) ?_
 refine Jl rfl rfl rfl ?_
 refine Qa (ps_gtr rfl rfl rfl) ?_
 refine Qa (ps_pickF rfl rfl rfl) ?_
 refine Qo (Qe ?_)
 refine Jc rfl (fun h16 => ?_) (fun h16 => ?_)
 replace H := Jt h16 H
 refine Qj (Qc ?_)
 refine Qa (Qi rfl rfl) ?_
 refine Qo (Qe ?_)
 obtain rfl := Qf H
 obtain rfl := Qf hF11
 obtain rfl := Qf HK10
 obtain rfl := Qf hF4
 obtain rfl := Qf HK3
 exact Jh (ds := [.v (.int .i64 1)]) Tryd.results45 (Qt (Qv rfl) (Je)) (Qm _) ⟨rfl, rfl⟩
 replace H := Ju h16 H
 refine Jg (GoK.blk (Qe (Qc ?_)))
 refine Qa (ps_add rfl rfl rfl hIk13) ?_
 refine Qa (Ql rfl rfl) ?_
 refine Qo ?_
 obtain rfl := Qf H
 exact GoK.againJ m14' (by omega) ⟨_, ⟨by omega, hF11⟩, rfl, rfl⟩ (Qg rfl (Qg rfl (Qg rfl (Qg rfl (Qg rfl (Qg rfl (Qg rfl (Qy)))))))) (Jb _)
 replace H := Jt h15 H
 refine Ja rfl rfl rfl rfl ?_
 refine Qa (ps_pickT rfl rfl rfl) ?_
 refine Qo (Qe ?_)
 refine GoC.condT rfl ?_
 refine Qj (Qc ?_)
 refine Qa (Qi rfl rfl) ?_
 refine Qo (Qe ?_)
 obtain rfl := Qf H
 obtain rfl := Qf hF11
 obtain rfl := Qf HK10
 obtain rfl := Qf hF4
 obtain rfl := Qf HK3
 exact Jh (ds := [.v (.int .i64 1)]) Tryd.results45 (Qt (Qv rfl) (Je)) (Qm _) ⟨rfl, rfl⟩
 obtain rfl : m14 = 0 := by omega
 refine GoC.exit rfl ?_
 cases hF11
 exact Jr ⟨rfl, rfl, rfl⟩ (Qg rfl (Qg rfl (Qg rfl (Qg rfl (Qy))))) (Jb _)
 rintro v h ⟨rfl, rfl, rfl⟩
 have H := HK10; clear HK10
 refine GoK.blk (Qe (Qc ?_))
 refine Qa (ps_add rfl rfl rfl hIk6) ?_
 refine Qa (Ql rfl rfl) ?_
 refine Qo ?_
 obtain rfl := Qf H
 exact GoK.againJ m7' (by omega) ⟨_, ⟨by omega, hF4⟩, rfl, rfl⟩ (Qg rfl (Qg rfl (Qg rfl (Qg rfl (Qy))))) (Jb _)
 obtain rfl : m7 = 0 := by omega
 refine GoC.exit rfl ?_
 cases hF4
 exact Jr ⟨rfl, rfl, rfl⟩ (Qy) (Jb _)
 rintro v h ⟨rfl, rfl, rfl⟩
 have H := HK3; clear HK3
 refine Qe (Qj (Qc ?_))
 refine Qa (Qi rfl rfl) ?_
 refine Qo (Qe ?_)
 obtain rfl := Qf H
 exact Jh (ds := [.v (.int .i64 0)]) Tryd.results45 (Qt (Qv rfl) (Je)) (Qm _) ⟨rfl, rfl⟩
def assign_ones_B1 : (Int × Nat) → Option (Ct (Int × Nat) (Int)) := fun (x1, n2) =>
 if 0 < x1 then
  ck (InI (((n2 : Nat) : Int) + 1)) <|
  ck (InI (x1 - 1)) <|
  some (.go ((bitsOf .and .i64 x1 (x1 - 1)), (n2 + 1)))
 else
  some (.brk (x1, n2))
def assign_ones_F (set_ : Int) : Option (Int) :=
 (loopC (assign_ones_B1) 1000000 (set_, 0)).bind fun q => match q with
 | .go (x6, n7) =>
  some ((n7 : Nat) : Int)
 | .ret x => some x
def assign_ones_P (out : Int) (d : D) (H : List HL) : Prop := d = .v (.int .i64 out) ∧ H = []
theorem assign_ones_I (out : Int) : IndepP (assign_ones_P out) := IndepP.of (by rintro _ _ ⟨rfl, rfl⟩; exact ⟨inferInstance, inferInstance⟩)
set_option maxRecDepth 100000 in
set_option maxHeartbeats 4000000 in
theorem assign_ones_spec (set_ : Int) {out : Int} (H : assign_ones_F set_ = some out) : Does Tryd.prog 46 [.v (.int .i64 set_)] [] (assign_ones_P out) := by
 unfold assign_ones_F at H
 refine Does.intro Tryd.func46 rfl Tryd.ntmps46 rfl fun w0 I0 tb0 => ?_
 refine Qj (Qc ?_)
 refine Qa (Qi rfl rfl) ?_
 refine Qo (Qe (Qj (Qc ?_)))
 refine Qa (Qi rfl rfl) ?_
 refine Qo (Qe (Qj ?_))
 have hb := Jd H; clear H
 obtain ⟨q5, hl12, HK3⟩ := hb
 refine GoC.blockJ [] [] (fun v h => ∃ (x6 : Int) (n7 : Nat), q5 = .go (x6, n7) ∧ v = [(3, .v (.int .i64 ((n7 : Nat) : Int)))] ∧ h = []) ?_ ?_
 refine GoC.loopJ [] [] (fun mQ v h => ∃ (x1 : Int) (n2 : Nat), loopC (assign_ones_B1) mQ (x1, n2) = some q5 ∧ v = [(0, .v (.int .i64 x1)), (3, .v (.int .i64 ((n2 : Nat) : Int)))] ∧ h = []) 1000000 ⟨_, _, hl12, rfl, rfl⟩ (Qg rfl (Qg rfl (Qy))) (Jb _) ?_
 rintro m8 v h ⟨x1, n2, hF4, rfl, rfl⟩
 obtain ⟨m8', rfl⟩ | rfl : (∃ x, m8 = x + 1) ∨ m8 = 0 := by cases m8 <;> simp
 case inr => cases hF4
 have hb := Jd hF4; clear hF4
 obtain ⟨qrm8, H, hF4⟩ := hb
 refine Qj (Qj (Qc ?_))
 refine Qa (Ql rfl rfl) ?_
 refine Qa (ps_gtr rfl rfl rfl) ?_
 refine Qo (Qe ?_)
 refine Jc rfl (fun h9 => ?_) (fun h9 => ?_)
 replace H := Jt h9 H
 refine Jg (Qe (Qj (GoC.block (Qc ?_))))
 refine Qa (Ql rfl rfl) ?_
 have c10 := ck_l H; replace H := ck_r H
 refine Qa (ps_add rfl rfl rfl c10) ?_
 refine Qa (Qi rfl rfl) ?_
 refine Qo (GoK.blk (Qe (Qc ?_)))
 refine Qa (Ql rfl rfl) ?_
 refine Qa (Ql rfl rfl) ?_
 have c11 := ck_l H; replace H := ck_r H
 refine Qa (ps_sub rfl rfl rfl c11) ?_
 refine Qa (ps_and rfl rfl rfl) ?_
 refine Qa (Qi rfl rfl) ?_
 refine Qo ?_
 obtain rfl := Qf H
 exact GoK.againJ m8' (by omega) ⟨_, _, hF4, rfl, rfl⟩ (Qg rfl (Qg rfl (Qy))) (Jb _)
 replace H := Ju h9 H
 refine GoC.exit rfl ?_
 obtain rfl := Qf H
 obtain rfl := Qf hF4
 exact Jr ⟨_, _, rfl, rfl, rfl⟩ (Qg rfl (Qy)) (Jb _)
 rintro v h ⟨x6, n7, rfl, rfl, rfl⟩
 have H := HK3; clear HK3
 refine Qe (Qj (Qc ?_))
 refine Qa (Ql rfl rfl) ?_
 refine Qa (Qi rfl rfl) ?_
 refine Qo (Qe ?_)
 obtain rfl := Qf H
 exact Jh (ds := [.v (.int .i64 ((n7 : Nat) : Int))]) Tryd.results46 (Qt (Qv rfl) (Je)) (Qm _) ⟨rfl, rfl⟩
def assign_Best_B2 (gain : (List (List Int))) (n8 : Nat) (r16 : Int) : Nat → (List Int) → Option ((List Int)) := fun k27 l22 =>
 if (bitsOf .and .i64 (Int.fdiv ((n8 : Nat) : Int) (2 ^ min k27 64)) 1) = 1 then
  ck (n8 < l22.length) <|
  ck (0 ≤ (((gain.length : Nat) : Int) - r16) ∧ (((gain.length : Nat) : Int) - r16) < ((gain.length : Nat) : Int)) <|
  ck (k27 < (gain.getD ((((gain.length : Nat) : Int) - r16).toNat) []).length) <|
  ck (0 ≤ (bitsOf .andNot .i64 ((n8 : Nat) : Int) (IntKind.i64.wrap (1 * 2 ^ min k27 64))) ∧ (bitsOf .andNot .i64 ((n8 : Nat) : Int) (IntKind.i64.wrap (1 * 2 ^ min k27 64))) < ((l22.length : Nat) : Int)) <|
  ck (InI (((gain.getD ((((gain.length : Nat) : Int) - r16).toNat) []).getD k27 (0 : Int)) + (l22.getD ((bitsOf .andNot .i64 ((n8 : Nat) : Int) (IntKind.i64.wrap (1 * 2 ^ min k27 64))).toNat) (0 : Int)))) <|
  some (l22.set n8 (max (l22.getD n8 (0 : Int)) (((gain.getD ((((gain.length : Nat) : Int) - r16).toNat) []).getD k27 (0 : Int)) + (l22.getD ((bitsOf .andNot .i64 ((n8 : Nat) : Int) (IntKind.i64.wrap (1 * 2 ^ min k27 64))).toNat) (0 : Int)))))
 else
  some l22
def assign_Best_B1 (gain : (List (List Int))) : ((List Int) × Nat) → Option (Ct ((List Int) × Nat) ((List Int) × Int × Int)) := fun (l7, n8) =>
 if ((n8 : Nat) : Int) < (IntKind.i64.wrap (1 * 2 ^ min gain.length 64)) then
  (assign_ones_F ((n8 : Nat) : Int)).bind fun r16 =>
  ck (InI (((gain.length : Nat) : Int) - r16)) <|
  ck (InI (((gain.length : Nat) : Int) + 1)) <|
  ck (InI ((-1000) * (((gain.length + 1) : Nat) : Int))) <|
  ck (n8 < l7.length) <|
  (forN (assign_Best_B2 gain n8 r16) gain.length 0 (l7.set n8 ((-1000) * (((gain.length + 1) : Nat) : Int)))).bind fun l26 =>
  ck (InI (((n8 : Nat) : Int) + 1)) <|
  some (.go (l26, (n8 + 1)))
 else
  some (.brk (l7, n8))
def assign_Best_B4 (gain : (List (List Int))) (l12 : (List Int)) (r49 : Int) : Nat → ((List Int) × Int) → Option (Ct ((List Int) × Int) (Ct ((List Int) × Int) ((List Int) × Int × Int))) := fun k60 (l53, x54) =>
 if (bitsOf .and .i64 (Int.fdiv x54 (2 ^ min k60 64)) 1) = 1 then
  ck (0 ≤ x54 ∧ x54 < ((l12.length : Nat) : Int)) <|
  ck (0 ≤ (((gain.length : Nat) : Int) - r49) ∧ (((gain.length : Nat) : Int) - r49) < ((gain.length : Nat) : Int)) <|
  ck (k60 < (gain.getD ((((gain.length : Nat) : Int) - r49).toNat) []).length) <|
  ck (0 ≤ (bitsOf .andNot .i64 x54 (IntKind.i64.wrap (1 * 2 ^ min k60 64))) ∧ (bitsOf .andNot .i64 x54 (IntKind.i64.wrap (1 * 2 ^ min k60 64))) < ((l12.length : Nat) : Int)) <|
  ck (InI (((gain.getD ((((gain.length : Nat) : Int) - r49).toNat) []).getD k60 (0 : Int)) + (l12.getD ((bitsOf .andNot .i64 x54 (IntKind.i64.wrap (1 * 2 ^ min k60 64))).toNat) (0 : Int)))) <|
  if (l12.getD x54.toNat (0 : Int)) = (((gain.getD ((((gain.length : Nat) : Int) - r49).toNat) []).getD k60 (0 : Int)) + (l12.getD ((bitsOf .andNot .i64 x54 (IntKind.i64.wrap (1 * 2 ^ min k60 64))).toNat) (0 : Int))) then
   ck (l53.length + 1 ≤ 17592186044416) <|
   some (.brk ((l53 ++ ([((k60 : Nat) : Int)] : List Int)), (bitsOf .andNot .i64 x54 (IntKind.i64.wrap (1 * 2 ^ min k60 64)))))
  else
   some (.go (l53, x54))
 else
  some (.go (l53, x54))
def assign_Best_B3 (gain : (List (List Int))) (l12 : (List Int)) : ((List Int) × Int) → Option (Ct ((List Int) × Int) ((List Int) × Int × Int)) := fun (l40, x41) =>
 if 0 < x41 then
  (assign_ones_F x41).bind fun r49 =>
  ck (InI (((gain.length : Nat) : Int) - r49)) <|
  (forC (assign_Best_B4 gain l12 r49) gain.length 0 (l40, x41)).bind fun q => match q with
  | .go (l58, x59) =>
   some (.go (l58, x59))
  | .ret x => some x
 else
  some (.brk (l40, x41))
def assign_Best_F (gain : (List (List Int))) : Option ((List Int) × Int × Int) :=
 (assign_Check_F gain).bind fun r1 =>
 if r1 ≠ 0 then
  some ([], 0, r1)
 else
  ck (0 ≤ (IntKind.i64.wrap (1 * 2 ^ min gain.length 64)) ∧ (IntKind.i64.wrap (1 * 2 ^ min gain.length 64)) ≤ 10000000000) <|
  (loopC (assign_Best_B1 gain) 1000000 ((List.replicate ((IntKind.i64.wrap (1 * 2 ^ min gain.length 64)).toNat) (0 : Int)), 1)).bind fun q => match q with
  | .go (l12, n13) =>
   ck (InI ((IntKind.i64.wrap (1 * 2 ^ min gain.length 64)) - 1)) <|
   (loopC (assign_Best_B3 gain l12) 1000000 ([], ((IntKind.i64.wrap (1 * 2 ^ min gain.length 64)) - 1))).bind fun q => match q with
   | .go (l45, x46) =>
    ck (0 ≤ ((IntKind.i64.wrap (1 * 2 ^ min gain.length 64)) - 1) ∧ ((IntKind.i64.wrap (1 * 2 ^ min gain.length 64)) - 1) < ((l12.length : Nat) : Int)) <|
    some (l45, (l12.getD (((IntKind.i64.wrap (1 * 2 ^ min gain.length 64)) - 1).toNat) (0 : Int)), 0)
   | .ret x => some x
  | .ret x => some x
def assign_Best_P (out : (List Int) × Int × Int) (d : D) (H : List HL) : Prop := ∃ β1 : BK, d = .tp 3 (nth [.own β1 1 0 out.1.length, .v (.int .i64 out.2.1), .v (.int .i64 out.2.2)]) ∧ H = [.one β1 3 1 (row out.1)]
theorem assign_Best_I (out : (List Int) × Int × Int) : IndepP (assign_Best_P out) := IndepP.of (by rintro _ _ ⟨β1, rfl, rfl⟩; exact ⟨inferInstance, inferInstance⟩)
set_option maxRecDepth 100000 in
set_option maxHeartbeats 4000000 in
theorem assign_Best_spec (gain : (List (List Int))) {out : (List Int) × Int × Int} (H : assign_Best_F gain = some out) : Does Tryd.prog 30 [slD gain] [] (assign_Best_P out) := by
 unfold assign_Best_F at H
 refine Does.intro Tryd.func30 rfl Tryd.ntmps30 rfl fun w0 I0 tb0 => ?_
 refine Qj (Qc ?_)
 refine Qa (Qi rfl rfl) ?_
 refine Qa (Qi rfl rfl) ?_
 refine Qa (Qi rfl rfl) ?_
 refine Qo (Qe (Qj (Qj (Qc ?_))))
 refine Qa (Ql rfl rfl) ?_
 have hb := Jd H; clear H
 obtain ⟨r1, e2, H⟩ := hb
 refine GoO.effC (ef_call rfl (Qm _) (Qm _) (assign_Check_spec gain e2) (Qq (Qp _ _) (Qz)) rfl (assign_Check_I (r1))) (fun rr HH hp => ?_)
 obtain ⟨rfl, rfl⟩ := hp
 refine Qa (Qi rfl rfl) ?_
 refine Qo (Qe (Qj (Qc ?_)))
 refine Qa (Ql rfl rfl) ?_
 refine Qa (ps_neq rfl rfl rfl) ?_
 refine Qo (Qe ?_)
 refine Jc rfl (fun h3 => ?_) (fun h3 => ?_)
 replace H := Jt h3 H
 refine Qj (Qc ?_)
 refine Qa (Ql rfl rfl) ?_
 refine Qa (Qi rfl rfl) ?_
 refine Qa (Qi rfl rfl) ?_
 refine Qa (Qi rfl rfl) ?_
 refine Qo (Qe ?_)
 obtain rfl := Qf H
 refine GoC.le (le_row0 3 1 (row ([] : List Int)) rfl) ?_
 exact Jh (ds := [.own ⟨0, 0, 0⟩ 1 0 0, .v (.int .i64 0), .v (.int .i64 r1)]) Tryd.results30 (Qt (ResD.le (Qv rfl) (by exact DLe.nilOwn)) (Qt (Qv rfl) (Qt (Qv rfl) (Je)))) (Qd _ _ _ _ _ Qk (Qm _)) ⟨⟨0, 0, 0⟩, rfl, rfl⟩
 replace H := Ju h3 H
 refine Jg (Qe (Qj (Qc ?_)))
 refine Qa (Ql rfl rfl) ?_
 refine Qa (ps_len rfl (by constructor) rfl) ?_
 refine GoO.lenLe (n := gain.length) (x := .tmp 20) rfl (by constructor) sl_lenLe (fun ml4 => ?_)
 refine Qa (Qi rfl rfl) ?_
 refine Qo (Qe (Qj (Qc ?_)))
 refine Qa (Ql rfl rfl) ?_
 refine Qa (ps_shl rfl rfl rfl (by omega)) ?_
 have c6 := ck_l H; replace H := ck_r H
 refine Jq (ef_makeZ rfl rfl c6 rfl rfl rfl) (fun β5 => ?_)
 refine GoO.le (Le.reH Qw (HLe.zeros (α := Int) ⟨Qs, Qb _⟩)) ?_
 refine Qa (Qi rfl rfl) ?_
 refine Qo (Qe (Qj (Qj (Qc ?_))))
 refine Qa (Qi rfl rfl) ?_
 refine Qo (Qe ?_)
 have hb := Jd H; clear H
 obtain ⟨q11, hl37, HK9⟩ := hb
 refine GoC.blockJ [(0, slD gain), (6, .v (.int .i64 ((gain.length : Nat) : Int)))] [] (fun v h => ∃ (l12 : (List Int)) (n13 : Nat), q11 = .go (l12, n13) ∧ v = [(7, .own β5 1 0 l12.length)] ∧ h = [.one β5 3 1 (row l12)]) ?_ ?_
 refine GoC.loopJ [(0, _), (6, _)] [] (fun mQ v h => ∃ (l7 : (List Int)) (n8 : Nat), loopC (assign_Best_B1 gain) mQ (l7, n8) = some q11 ∧ v = [(7, .own β5 1 0 l7.length), (8, .v (.int .i64 ((n8 : Nat) : Int)))] ∧ h = [.one β5 3 1 (row l7)]) 1000000 ⟨_, _, hl37, rfl, rfl⟩ (Jm rfl (Jp (by first | rfl | omega | (simp only [row_len, gridC_len, rowO_len, List.length_replicate] <;> first | rfl | omega))) (Qg rfl (Qg rfl (Qg rfl (Qy))))) (Qn _ _ _ _ _ Qk (Qr _) (Jb _)) ?_
 rintro m14 v h ⟨l7, n8, hF10, rfl, rfl⟩
 obtain ⟨m14', rfl⟩ | rfl : (∃ x, m14 = x + 1) ∨ m14 = 0 := by cases m14 <;> simp
 case inr => cases hF10
 have hb := Jd hF10; clear hF10
 obtain ⟨qrm14, H, hF10⟩ := hb
 refine Qj (Qj (Qc ?_))
 refine Qa (Ql rfl rfl) ?_
 refine Qa (Ql rfl rfl) ?_
 refine Qa (ps_shl rfl rfl rfl (by omega)) ?_
 refine Qa (ps_lss rfl rfl rfl) ?_
 refine Qo (Qe ?_)
 refine Jc rfl (fun h15 => ?_) (fun h15 => ?_)
 replace H := Jt h15 H
 refine Jg (Qe (Qj (GoC.block (Qj (Qc ?_)))))
 refine Qa (Ql rfl rfl) ?_
 refine Qa (Ql rfl rfl) ?_
 have hb := Jd H; clear H
 obtain ⟨r16, e17, H⟩ := hb
 refine GoO.effC (ef_call rfl (Qm _) (Qm _) (assign_ones_spec ((n8 : Nat) : Int) e17) (Qq (Qp _ _) (Qz)) rfl (assign_ones_I (r16))) (fun rr HH hp => ?_)
 obtain ⟨rfl, rfl⟩ := hp
 have c18 := ck_l H; replace H := ck_r H
 refine Qa (ps_sub rfl rfl rfl c18) ?_
 refine Qa (Qi rfl rfl) ?_
 refine Qo (Qe (Qj (Qc ?_)))
 refine Qa (Ql rfl rfl) ?_
 refine Qa (Ql rfl rfl) ?_
 refine Qa (Ql rfl rfl) ?_
 have c19 := ck_l H; replace H := ck_r H
 refine Qa (ps_add rfl rfl rfl c19) ?_
 have c20 := ck_l H; replace H := ck_r H
 refine Qa (ps_mul rfl rfl rfl c20) ?_
 have c21 := ck_l H; replace H := ck_r H
 refine Qa (ps_indexAddr0N rfl rfl c21 rfl) ?_
 refine GoO.eff1 (ef_store rfl rfl rfl Qw (upd_row1 (v := ((-1000) * (((gain.length + 1) : Nat) : Int))) rfl) c21 rfl) ?_
 refine Qo (Qe (Qj (Qc ?_)))
 refine Qa (Ql rfl rfl) ?_
 refine Qa (Ql rfl rfl) ?_
 refine Qo (Qe ?_)
 have hb := Jd H; clear H
 obtain ⟨l26, hl35, HK23⟩ := hb
 refine GoC.blockJ [(0, slD gain), (6, .v (.int .i64 ((gain.length : Nat) : Int))), (8, .v (.int .i64 ((n8 : Nat) : Int)))] [] (fun v h => v = [(7, .own β5 1 0 l26.length)] ∧ h = [.one β5 3 1 (row l26)]) ?_ ?_
 refine GoC.loopJ [(0, _), (6, _), (8, _), (9, _), (41, _)] [] (fun mQ v h => ∃ (k27 : Nat) (l22 : (List Int)), (k27 + mQ = gain.length ∧ forN (assign_Best_B2 gain n8 r16) mQ k27 l22 = some l26) ∧ v = [(42, .v (.int .i64 ((k27 : Nat) : Int))), (7, .own β5 1 0 l22.length)] ∧ h = [.one β5 3 1 (row l22)]) gain.length ⟨_, _, ⟨by omega, hl35⟩, rfl, rfl⟩ (Qg rfl (Jm rfl (Jp (by first | rfl | omega | (simp only [row_len, gridC_len, rowO_len, List.length_set] <;> first | rfl | omega))) (Qg rfl (Qg rfl (Qg rfl (Qg rfl (Qg rfl (Qy)))))))) (Qn _ _ _ _ _ Qk (Qr _) (Jb _)) ?_
 rintro m28 v h ⟨k27, l22, ⟨hkk27, hF24⟩, rfl, rfl⟩
 refine Qj (Qc ?_)
 refine Qa (ps_lss rfl rfl rfl) ?_
 refine Qo (Qe (Qj ?_))
 refine Jc rfl (fun (hk27 : (k27 : Int) < ((gain.length : Nat) : Int)) => ?_) (fun (hk27 : ¬ (k27 : Int) < ((gain.length : Nat) : Int)) => ?_)
 obtain ⟨m28', rfl⟩ : ∃ x, m28 = x + 1 := ⟨m28 - 1, by omega⟩
 have hb := Jd hF24; clear hF24
 obtain ⟨qrm28, H, hF24⟩ := hb
 have hnk27 : k27 < gain.length := by omega
 have hIk27 : InI ((k27 : Int) + 1) := inI_len hk27 ml4
 refine Jg (Qe (Qj (GoC.block (Qj (Qc ?_)))))
 refine Qa (Ql rfl rfl) ?_
 refine Qa (Qi rfl rfl) ?_
 refine Qo (Qe (Qj (Qc ?_)))
 refine Qa (Ql rfl rfl) ?_
 refine Qa (Ql rfl rfl) ?_
 refine Qa (ps_shr rfl rfl rfl (by omega)) ?_
 refine Qa (ps_and rfl rfl rfl) ?_
 refine Qa (ps_eql rfl rfl rfl) ?_
 refine Qo (Qe ?_)
 refine Jc rfl (fun h29 => ?_) (fun h29 => ?_)
 replace H := Jt h29 H
 refine GoC.drawP (.q 0 (.q 1 (.q 2 (.q 3 (.q 4 (.q 6 (.q 7 (.q 8 (.q 9 (.q 10 (.q 11 (.q 12 (.q 13 (.q 14 (.q 15 (.q 16 (.q 17 (.q 18 (.two 5 19 (.one 19 (.q 20 (.q 21 (.q 22 (.one 23 (.done)))))) (.q 20 (.one 5 (.q 21 (.q 22 (.one 23 (.done))))))))))))))))))))))))) [] follows (by kernel_rfl) (Qm _) ?_
 refine Qx rfl (Ql rfl rfl) ?_
 refine Qx rfl (Ql rfl rfl) ?_
 refine Qx rfl (Ql rfl rfl) ?_
 refine Qx rfl (Ql rfl rfl) ?_
 have c30 := ck_l H; replace H := ck_r H
 refine Qx rfl (ps_indexAddr0N rfl rfl c30 rfl) ?_
 refine Qx rfl (Ql rfl rfl) ?_
 refine Qx rfl (Ql rfl rfl) ?_
 have c31 := ck_l H; replace H := ck_r H
 refine Qx rfl (ps_indexAddrR rfl rfl c31 rfl) ?_
 refine Qx rfl (ps_loadR rfl (idx_lt c31) rfl rfl) ?_
 refine Qx rfl (Ql rfl rfl) ?_
 have c32 := ck_l H; replace H := ck_r H
 refine Qx rfl (ps_indexAddrRN rfl rfl c32 rfl) ?_
 refine Qx rfl (ps_loadR rfl c32 rfl rfl) ?_
 refine Qx rfl (Ql rfl rfl) ?_
 refine Qx rfl (Ql rfl rfl) ?_
 refine Qx rfl (Ql rfl rfl) ?_
 refine Qx rfl (ps_shl rfl rfl rfl (by omega)) ?_
 refine Qx rfl (ps_andNot rfl rfl rfl) ?_
 have c33 := ck_l H; replace H := ck_r H
 refine Qx rfl (ps_indexAddr0 rfl rfl c33 rfl) ?_
 have c34 := ck_l H; replace H := ck_r H
 apply GoP.fork0
 exact rfl
 exact rfl
 exact Qs
 exact Qs
 exact Eff.pure (H1 := [.one β5 3 1 (row l22)]) (Jf rfl Qw Qw c30 rfl rfl)
 exact Eff.pure (H1 := [.one β5 3 1 (row l22)]) (Jf rfl Qw Qw (idx_lt c33) rfl rfl)
 exact (Qm _)
 exact (Qm _)
 intro hQ
 rintro _ rfl
 refine GoP.oneN rfl (Jf rfl Qw Qw (idx_lt c33) rfl rfl) (Qm _) ?_
 refine Qx rfl (ps_add rfl rfl rfl c34) ?_
 refine Qx rfl (ps_max rfl rfl rfl) ?_
 refine Qx rfl (ps_indexAddr0N rfl rfl c30 rfl) ?_
 refine GoP.one1 rfl Qs (ef_store rfl rfl rfl Qw (upd_row1 (v := (max (l22.getD n8 (0 : Int)) (((gain.getD ((((gain.length : Nat) : Int) - r16).toNat) []).getD k27 (0 : Int)) + (l22.getD ((bitsOf .andNot .i64 ((n8 : Nat) : Int) (IntKind.i64.wrap (1 * 2 ^ min k27 64))).toNat) (0 : Int))))) rfl) c30 rfl) (Qd _ _ _ _ _ Qk (Qm _)) ?_
 exact GoP.done (hQ)
 intro hQ
 rintro _ rfl
 refine Qx rfl (ps_add rfl rfl rfl c34) ?_
 refine GoP.oneN rfl (Jf rfl Qw Qw c30 rfl rfl) (Qm _) ?_
 refine Qx rfl (ps_max rfl rfl rfl) ?_
 refine Qx rfl (ps_indexAddr0N rfl rfl c30 rfl) ?_
 refine GoP.one1 rfl Qs (ef_store rfl rfl rfl Qw (upd_row1 (v := (max (l22.getD n8 (0 : Int)) (((gain.getD ((((gain.length : Nat) : Int) - r16).toNat) []).getD k27 (0 : Int)) + (l22.getD ((bitsOf .andNot .i64 ((n8 : Nat) : Int) (IntKind.i64.wrap (1 * 2 ^ min k27 64))).toNat) (0 : Int))))) rfl) c30 rfl) (Qd _ _ _ _ _ Qk (Qm _)) ?_
 refine GoP.done (GoK.le ?_ (hQ))
 refine Le.ofDW ?_ (Qn _ _ _ _ _ Qk (Qr _) (Jb _))
 repeat (first | exact EnvLeW.nil | refine EnvLeW.cons rfl ?_ | refine EnvLeW.skip rfl ?_)
 refine GoK.blk (Qe (Qc ?_))
 refine Qa (ps_add rfl rfl rfl hIk27) ?_
 refine Qa (Ql rfl rfl) ?_
 refine Qo ?_
 obtain rfl := Qf H
 exact GoK.againJ m28' (by omega) ⟨_, _, ⟨by omega, hF24⟩, rfl, rfl⟩ (Qg rfl (Jm rfl (Jp (by first | rfl | omega | (simp only [row_len, gridC_len, rowO_len, List.length_set, List.length_cons, List.length_nil, List.length_nil] <;> first | rfl | omega))) (Qg rfl (Qg rfl (Qg rfl (Qg rfl (Qg rfl (Qy)))))))) (Qn _ _ _ _ _ Qk (Qr _) (Jb _))
 replace H := Ju h29 H
 refine Jg (GoK.blk (Qe (Qc ?_)))
 refine Qa (ps_add rfl rfl rfl hIk27) ?_
 refine Qa (Ql rfl rfl) ?_
 refine Qo ?_
 obtain rfl := Qf H
 exact GoK.againJ m28' (by omega) ⟨_, _, ⟨by omega, hF24⟩, rfl, rfl⟩ (Qg rfl (Qg rfl (Qg rfl (Qg rfl (Qg rfl (Qg rfl (Qg rfl (Qy)))))))) (Qn _ _ _ _ _ Qk (Qr _) (Jb _))
 obtain rfl : m28 = 0 := by omega
 refine GoC.exit rfl ?_
 cases hF24
 exact Jr ⟨rfl, rfl⟩ (Jm rfl (Jp (by first | rfl | omega | (simp only [row_len, gridC_len, rowO_len] <;> first | rfl | omega))) (Qg rfl (Qg rfl (Qg rfl (Qy))))) (Qn _ _ _ _ _ Qk (Qr _) (Jb _))
 rintro v h ⟨rfl, rfl⟩
 have H := HK23; clear HK23
 refine GoK.blk (Qe (Qc ?_))
 refine Qa (Ql rfl rfl) ?_
 have c36 := ck_l H; replace H := ck_r H
 refine Qa (ps_add rfl rfl rfl c36) ?_
 refine Qa (Qi rfl rfl) ?_
 refine Qo ?_
 obtain rfl := Qf H
 exact GoK.againJ m14' (by omega) ⟨_, _, hF10, rfl, rfl⟩ (Jm rfl (Jp (by first | rfl | omega | (simp only [row_len, gridC_len, rowO_len] <;> first | rfl | omega))) (Qg rfl (Qg rfl (Qg rfl (Qy))))) (Qn _ _ _ _ _ Qk (Qr _) (Jb _))
 replace H := Ju h15 H
 refine GoC.exit rfl ?_
 obtain rfl := Qf H
 obtain rfl := Qf hF10
 exact Jr ⟨_, _, rfl, rfl, rfl⟩ (Jm rfl (Jp (by first | rfl | omega | (simp only [row_len, gridC_len, rowO_len] <;> first | rfl | omega))) (Qg rfl (Qg rfl (Qy)))) (Qn _ _ _ _ _ Qk (Qr _) (Jb _))
 rintro v h ⟨l12, n13, rfl, rfl, rfl⟩
 have H := HK9; clear HK9
 refine Qe (Qj (Qc ?_))
 refine Qa (Qi rfl rfl) ?_
 refine Qo (Qe (Qj (Qj (Qc ?_))))
 refine Qa (Ql rfl rfl) ?_
 refine Qa (ps_shl rfl rfl rfl (by omega)) ?_
 have c38 := ck_l H; replace H := ck_r H
 refine Qa (ps_sub rfl rfl rfl c38) ?_
 refine Qa (Qi rfl rfl) ?_
 refine Qo (Qe ?_)
 have hb := Jd H; clear H
 obtain ⟨q44, hl73, HK42⟩ := hb
 refine GoC.blockJ [(6, .v (.int .i64 ((gain.length : Nat) : Int))), (7, .own β5 1 0 l12.length)] [.one β5 3 1 (row l12)] (fun v h => ∃ (l45 : (List Int)) (x46 : Int) (β39 : BK), q44 = .go (l45, x46) ∧ v = [(11, .own β39 1 0 l45.length)] ∧ h = [.one β39 3 1 (row l45)]) ?_ ?_
 refine GoC.loopJ [(0, _), (6, _), (7, _)] [.one β5 3 1 (row l12)] (fun mQ v h => ∃ (l40 : (List Int)) (x41 : Int) (β39 : BK), loopC (assign_Best_B3 gain l12) mQ (l40, x41) = some q44 ∧ v = [(11, .own β39 1 0 l40.length), (12, .v (.int .i64 x41))] ∧ h = [.one β39 3 1 (row l40)]) 1000000 ⟨_, _, ⟨0, 0, 0⟩, hl73, rfl, rfl⟩ (Jm rfl (DLe.nilOwn) (Qg rfl (Qg rfl (Qg rfl (Qg rfl (Qy)))))) (TkD.no _ _ _ _ _ rfl (Qn _ _ _ _ _ Qk (Qr _) (Jb _))) ?_
 rintro m47 v h ⟨l40, x41, β39, hF43, rfl, rfl⟩
 obtain ⟨m47', rfl⟩ | rfl : (∃ x, m47 = x + 1) ∨ m47 = 0 := by cases m47 <;> simp
 case inr => cases hF43
 have hb := Jd hF43; clear hF43
 obtain ⟨qrm47, H, hF43⟩ := hb
 refine Qj (Qj (Qc ?_))
 refine Qa (Ql rfl rfl) ?_
 refine Qa (ps_gtr rfl rfl rfl) ?_
 refine Qo (Qe ?_)
 refine Jc rfl (fun h48 => ?_) (fun h48 => ?_)
 replace H := Jt h48 H
 refine Jg (Qe (GoC.block (Qj (Qc ?_))))
 refine Qa (Ql rfl rfl) ?_
 refine Qa (Ql rfl rfl) ?_
 have hb := Jd H; clear H
 obtain ⟨r49, e50, H⟩ := hb
 refine GoO.effC (ef_call rfl (Qm _) (Qm _) (assign_ones_spec x41 e50) (Qq (Qp _ _) (Qz)) rfl (assign_ones_I (r49))) (fun rr HH hp => ?_)
 obtain ⟨rfl, rfl⟩ := hp
 have c51 := ck_l H; replace H := ck_r H
 refine Qa (ps_sub rfl rfl rfl c51) ?_
 refine Qa (Qi rfl rfl) ?_
 refine Qo (Qe (Qj (Qc ?_)))
 refine Qa (Ql rfl rfl) ?_
 refine Qa (Ql rfl rfl) ?_
 refine Qo (Qe ?_)
 have hb := Jd H; clear H
 obtain ⟨q57, hl72, HK55⟩ := hb
 refine GoC.blockJ [(0, slD gain), (6, .v (.int .i64 ((gain.length : Nat) : Int))), (7, .own β5 1 0 l12.length)] [.one β5 3 1 (row l12)] (fun v h => ∃ (l58 : (List Int)) (x59 : Int) (β52 : BK), q57 = .go (l58, x59) ∧ v = [(11, .own β52 1 0 l58.length), (12, .v (.int .i64 x59))] ∧ h = [.one β52 3 1 (row l58)]) ?_ ?_
 refine GoC.loopJ [(0, _), (6, _), (7, _), (13, _), (83, _)] [.one β5 3 1 (row l12)] (fun mQ v h => ∃ (k60 : Nat) (l53 : (List Int)) (x54 : Int) (β52 : BK), (k60 + mQ = gain.length ∧ forC (assign_Best_B4 gain l12 r49) mQ k60 (l53, x54) = some q57) ∧ v = [(84, .v (.int .i64 ((k60 : Nat) : Int))), (11, .own β52 1 0 l53.length), (12, .v (.int .i64 x54))] ∧ h = [.one β52 3 1 (row l53)]) gain.length ⟨_, _, _, β39, ⟨by omega, hl72⟩, rfl, rfl⟩ (Qg rfl (Jm rfl (Jp (by first | rfl | omega | (simp only [row_len, gridC_len, rowO_len] <;> first | rfl | omega))) (Qg rfl (Qg rfl (Qg rfl (Qg rfl (Qg rfl (Qg rfl (Qy))))))))) (Qn _ _ _ _ _ Qk (Qr _) (Qn _ _ _ _ _ Qk (Qr _) (Jb _))) ?_
 rintro m61 v h ⟨k60, l53, x54, β52, ⟨hkk60, hF56⟩, rfl, rfl⟩
 refine Qj (Qc ?_)
 refine Qa (ps_lss rfl rfl rfl) ?_
 refine Qo (Qe (Qj ?_))
 refine Jc rfl (fun (hk60 : (k60 : Int) < ((gain.length : Nat) : Int)) => ?_) (fun (hk60 : ¬ (k60 : Int) < ((gain.length : Nat) : Int)) => ?_)
 obtain ⟨m61', rfl⟩ : ∃ x, m61 = x + 1 := ⟨m61 - 1, by omega⟩
 have hb := Jd hF56; clear hF56
 obtain ⟨qrm61, H, hF56⟩ := hb
 have hnk60 : k60 < gain.length := by omega
 have hIk60 : InI ((k60 : Int) + 1) := inI_len hk60 ml4
 refine Jg (Qe (Qj (GoC.block (Qj (Qc ?_)))))
 refine Qa (Ql rfl rfl) ?_
 refine Qa (Qi rfl rfl) ?_
 refine Qo (Qe (Qj ?_))
 refine GoC.drawA (.q 0 (.q 1 (.q 2 (.q 3 (.q 4 (.q 5 (.q 6 (.q 7 (.q 8 (.q 9 (.q 10 (.q 11 (.q 12 (.q 13 (.q 14 (.q 15 (.q 16 (.q 17 (.q 18 (.q 19 (.q 20 (.q 21 (.q 22 (.q 23 (.q 24 (.q 25 (.q 26 (.done)))))))))))))))))))))))))))) follows (by kernel_rfl) ?_
 refine Qx rfl (Ql rfl rfl) ?_
 refine Qx rfl (Ql rfl rfl) ?_
 refine Qx rfl (ps_shr rfl rfl rfl (by omega)) ?_
 refine Qx rfl (ps_and rfl rfl rfl) ?_
 refine Qx rfl (ps_eql rfl rfl rfl) ?_
 refine Qx rfl (Ql rfl rfl) ?_
 refine GoP.decideD 92 rfl (fun h62 => ?_) (fun h62 => ?_)
 replace H := Jt h62 H
 refine GoP.qT rfl rfl rfl rfl (Ql rfl rfl) ?_
 refine GoP.qT rfl rfl rfl rfl (Ql rfl rfl) ?_
 have c63 := ck_l H; replace H := ck_r H
 refine GoP.qT rfl rfl rfl rfl (ps_indexAddr0 rfl rfl c63 rfl) ?_
 refine GoP.qT rfl rfl rfl rfl (Jf rfl Js Js (idx_lt c63) rfl rfl) ?_
 refine GoP.qT rfl rfl rfl rfl (Ql rfl rfl) ?_
 refine GoP.qT rfl rfl rfl rfl (Ql rfl rfl) ?_
 have c64 := ck_l H; replace H := ck_r H
 refine GoP.qT rfl rfl rfl rfl (ps_indexAddrR rfl rfl c64 rfl) ?_
 refine GoP.qT rfl rfl rfl rfl (ps_loadR rfl (idx_lt c64) rfl rfl) ?_
 refine GoP.qT rfl rfl rfl rfl (Ql rfl rfl) ?_
 have c65 := ck_l H; replace H := ck_r H
 refine GoP.qT rfl rfl rfl rfl (ps_indexAddrRN rfl rfl c65 rfl) ?_
 refine GoP.qT rfl rfl rfl rfl (ps_loadR rfl c65 rfl rfl) ?_
 refine GoP.qT rfl rfl rfl rfl (Ql rfl rfl) ?_
 refine GoP.qT rfl rfl rfl rfl (Ql rfl rfl) ?_
 refine GoP.qT rfl rfl rfl rfl (Ql rfl rfl) ?_
 refine GoP.qT rfl rfl rfl rfl (ps_shl rfl rfl rfl (by omega)) ?_
 refine GoP.qT rfl rfl rfl rfl (ps_andNot rfl rfl rfl) ?_
 have c66 := ck_l H; replace H := ck_r H
 refine GoP.qT rfl rfl rfl rfl (ps_indexAddr0 rfl rfl c66 rfl) ?_
 refine GoP.qT rfl rfl rfl rfl (Jf rfl Js Js (idx_lt c66) rfl rfl) ?_
 have c67 := ck_l H; replace H := ck_r H
 refine GoP.qT rfl rfl rfl rfl (ps_add rfl rfl rfl c67) ?_
 refine GoP.qT rfl rfl rfl rfl (ps_eql rfl rfl rfl) ?_
 refine Qx rfl (ps_pickT rfl rfl rfl) ?_
 refine GoP.done ?_
 refine Qe ?_
 refine Jc rfl (fun h68 => ?_) (fun h68 => ?_)
 replace H := Jt h68 H
 refine Qj (Qc ?_)
 refine Qa (Ql rfl rfl) ?_
 refine Qa (Ql rfl rfl) ?_
 refine Jq (ef_buildSlice (row ([((k60 : Nat) : Int)] : List Int)) rfl (Jn _ _ _ _ _ _ _ _ ⟨rfl, rfl⟩ (Part.one _ rfl rfl) rfl rfl (Parts.nil _)) rfl rfl rfl rfl) (fun β69 => ?_)
 have c71 := ck_l H; replace H := ck_r H
 refine Jq (ef_append rfl rfl Jk (Src.own Qw (by first | omega | (simp only [szl]; omega) | (simp only [szl]; done))) (cat_row (α := Int) (by first | rfl | omega | (simp only [szl] <;> first | rfl | omega)) (by first | rfl | omega | (simp only [szl] <;> first | rfl | omega)) (fun _ _ _ _ => rfl)) (by first | omega | (simp only [szl]; omega) | (simp only [szl]; done)) (app_le c71 rfl) rfl rfl rfl) (fun β70 => ?_)
 refine Qa (Qi rfl rfl) ?_
 refine Qo (Qe (Qj (Qc ?_)))
 refine Qa (Ql rfl rfl) ?_
 refine Qa (Ql rfl rfl) ?_
 refine Qa (ps_shl rfl rfl rfl (by omega)) ?_
 refine Qa (ps_andNot rfl rfl rfl) ?_
 refine Qa (Qi rfl rfl) ?_
 refine Qo (Qe ?_)
 refine GoC.exit rfl ?_
 obtain rfl := Qf H
 obtain rfl := Qf hF56
 exact Jr ⟨_, _, β70, rfl, rfl, rfl⟩ (Jm rfl (Jp (by first | rfl | omega | (simp only [row_len, gridC_len, rowO_len, List.length_append, List.length_cons, List.length_nil] <;> first | rfl | omega))) (Qg rfl (Qg rfl (Qg rfl (Qg rfl (Qy)))))) (Qn _ _ _ _ _ Qk (Qr _) (Qn _ _ _ _ _ Jk (Qr _) (Jb _)))
 replace H := Ju h68 H
 refine Jg (GoK.blk (Qe (Qc ?_)))
 refine Qa (ps_add rfl rfl rfl hIk60) ?_
 refine Qa (Ql rfl rfl) ?_
 refine Qo ?_
 obtain rfl := Qf H
 exact GoK.againJ m61' (by omega) ⟨_, _, _, β52, ⟨by omega, hF56⟩, rfl, rfl⟩ (Qg rfl (Qg rfl (Qg rfl (Qg rfl (Qg rfl (Qg rfl (Qg rfl (Qg rfl (Qy))))))))) (Qn _ _ _ _ _ Qk (Qr _) (Qn _ _ _ _ _ Qk (Qr _) (Jb _)))
 replace H := Ju h62 H
 refine GoP.qF rfl rfl rfl rfl rfl ?_
 refine GoP.qF rfl rfl rfl rfl rfl ?_
 refine GoP.qF rfl rfl rfl rfl rfl ?_
 refine GoP.qF rfl rfl rfl rfl rfl ?_
 refine GoP.qF rfl rfl rfl rfl rfl ?_
 refine GoP.qF rfl rfl rfl rfl rfl ?_
 refine GoP.qF rfl rfl rfl rfl rfl ?_
 refine GoP.qF rfl rfl rfl rfl rfl ?_
 refine GoP.qF rfl rfl rfl rfl rfl ?_
 refine GoP.qF rfl rfl rfl rfl rfl ?_
 refine GoP.qF rfl rfl rfl rfl rfl ?_
 refine GoP.qF rfl rfl rfl rfl rfl ?_
 refine GoP.qF rfl rfl rfl rfl rfl ?_
 refine GoP.qF rfl rfl rfl rfl rfl ?_
 refine GoP.qF rfl rfl rfl rfl rfl ?_
 refine GoP.qF rfl rfl rfl rfl rfl ?_
 refine GoP.qF rfl rfl rfl rfl rfl ?_
 refine GoP.qF rfl rfl rfl rfl rfl ?_
 refine GoP.qF rfl rfl rfl rfl rfl ?_
 refine GoP.qF rfl rfl rfl rfl rfl ?_
 refine Qx rfl (ps_pickF rfl rfl rfl) ?_
 refine GoP.done ?_
 refine Qe ?_
 refine GoC.condF rfl ?_
 refine Jg (GoK.blk (Qe (Qc ?_)))
 refine Qa (ps_add rfl rfl rfl hIk60) ?_
 refine Qa (Ql rfl rfl) ?_
 refine Qo ?_
 obtain rfl := Qf H
 exact GoK.againJ m61' (by omega) ⟨_, _, _, β52, ⟨by omega, hF56⟩, rfl, rfl⟩ (Qg rfl (Qg rfl (Qg rfl (Qg rfl (Qg rfl (Qg rfl (Qg rfl (Qg rfl (Qy))))))))) (Qn _ _ _ _ _ Qk (Qr _) (Qn _ _ _ _ _ Qk (Qr _) (Jb _)))
 obtain rfl : m61 = 0 := by omega
 refine GoC.exit rfl ?_
 cases hF56
 exact Jr ⟨_, _, β52, rfl, rfl, rfl⟩ (Jm rfl (Jp (by first | rfl | omega | (simp only [row_len, gridC_len, rowO_len] <;> first | rfl | omega))) (Qg rfl (Qg rfl (Qg rfl (Qg rfl (Qy)))))) (Qn _ _ _ _ _ Qk (Qr _) (Qn _ _ _ _ _ Qk (Qr _) (Jb _)))
 rintro v h ⟨l58, x59, β52, rfl, rfl, rfl⟩
 have H := HK55; clear HK55
 refine GoK.blk ?_
 obtain rfl := Qf H
 exact GoK.againJ m47' (by omega) ⟨_, _, β52, hF43, rfl, rfl⟩ (Jm rfl (Jp (by first | rfl | omega | (simp only [row_len, gridC_len, rowO_len] <;> first | rfl | omega))) (Qg rfl (Qg rfl (Qg rfl (Qg rfl (Qy)))))) (Qn _ _ _ _ _ Qk (Qr _) (Qn _ _ _ _ _ Qk (Qr _) (Jb _)))
 replace H := Ju h48 H
 refine GoC.exit rfl ?_
 obtain rfl := Qf H
 obtain rfl := Qf hF43
 exact Jr ⟨_, _, β39, rfl, rfl, rfl⟩ (Jm rfl (Jp (by first | rfl | omega | (simp only [row_len, gridC_len, rowO_len] <;> first | rfl | omega))) (Qg rfl (Qg rfl (Qy)))) (Qn _ _ _ _ _ Qk (Qr _) (Qn _ _ _ _ _ Qk (Qr _) (Jb _)))
 rintro v h ⟨l45, x46, β39, rfl, rfl, rfl⟩
 have H := HK42; clear HK42
 refine Qe (Qj ?_)
 refine GoC.drawA (.q 0 (.q 1 (.q 2 (.q 3 (.q 4 (.q 5 (.q 6 (.q 7 (.q 8 (.q 9 (.done))))))))))) follows (by kernel_rfl) ?_
 refine Qx rfl (Ql rfl rfl) ?_
 refine Qx rfl (Ql rfl rfl) ?_
 refine Qx rfl (Ql rfl rfl) ?_
 refine Qx rfl (ps_shl rfl rfl rfl (by omega)) ?_
 refine Qx rfl (ps_sub rfl rfl rfl c38) ?_
 have c74 := ck_l H; replace H := ck_r H
 refine Qx rfl (ps_indexAddr0 rfl rfl c74 rfl) ?_
 refine Qx rfl (Jf rfl Js Js (idx_lt c74) rfl rfl) ?_
 refine Qx rfl (Qi rfl rfl) ?_
 refine Qx rfl (Qi rfl rfl) ?_
 refine Qx rfl (Qi rfl rfl) ?_
 refine GoP.done ?_
 refine Qe ?_
 obtain rfl := Qf H
 exact Jh (ds := [.own β39 1 0 l45.length, .v (.int .i64 (l12.getD (((IntKind.i64.wrap (1 * 2 ^ min gain.length 64)) - 1).toNat) (0 : Int))), .v (.int .i64 0)]) Tryd.results30 (Qt (Qv rfl) (Qt (Qv rfl) (Qt (Qv rfl) (Je)))) (Qd _ _ _ _ _ Qk (Qm _)) ⟨β39, rfl, rfl⟩
end Go.Proofs.YthchdnemndolbaaDoor
