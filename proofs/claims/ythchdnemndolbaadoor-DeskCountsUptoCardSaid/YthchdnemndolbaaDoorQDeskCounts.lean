import Derived.Test.YthchdnemndolbaaDoorQTys
import Derived.Test.YthchdnemndolbaaDoorQDat
import Derived.Test.YthchdnemndolbaaDoorQGdesk
import Derived.Test.YthchdnemndolbaaDoorQGslices
import Derived.Test.YthchdnemndolbaaDoorQShelf
import Derived.Test.YthchdnemndolbaaDoorQPE
namespace Go.Proofs.YthchdnemndolbaaDoor
open Go Go.Proofs.YthchdnemndolbaaDoor.Sx
set_option linter.unusedVariables false
set_option linter.unusedSimpArgs false
def weirkeep_DeskCounts_c1_F (p0 : ByteArray) : Option (Bool) :=
 if p0 = (⟨#[]⟩ : ByteArray) then
  some true
 else
  (strings_Contains_F p0 (⟨#[10]⟩ : ByteArray)).bind fun r2 =>
  some r2
def weirkeep_DeskCounts_c1_P (out : Bool) (d : D) (H : List HL) : Prop := d = .v (.bool out) ∧ H = []
theorem weirkeep_DeskCounts_c1_I (out : Bool) : IndepP (weirkeep_DeskCounts_c1_P out) := IndepP.of (by rintro _ _ ⟨rfl, rfl⟩; exact ⟨inferInstance, inferInstance⟩)
set_option maxRecDepth 100000 in
set_option maxHeartbeats 4000000 in
theorem weirkeep_DeskCounts_c1_spec (p0 : ByteArray) {out : Bool} (H : weirkeep_DeskCounts_c1_F p0 = some out) : Does Tryd.prog 9 [.v (.string p0)] [] (weirkeep_DeskCounts_c1_P out) := by
 unfold weirkeep_DeskCounts_c1_F at H
 refine Does.intro Tryd.func9 rfl Tryd.ntmps9 rfl fun w0 I0 tb0 => ?_
 refine Qj (Qc ?_)
 refine Qa (Qi rfl rfl) ?_
 refine Qo (Qe (Qj (Qc ?_)))
 refine Qa (Ql rfl rfl) ?_
 refine Qa (ps_eqlStr rfl rfl rfl) ?_
 refine Qa (Ql rfl rfl) ?_
 refine GoO.guardE rfl rfl rfl rfl (fun h1 => ?_) (fun h1 => ?_)
 replace H := Ju h1 H
 refine Qa (Ql rfl rfl) ?_
 refine Jl rfl rfl rfl ?_
 have hb := Jd H; clear H
 obtain ⟨r2, e3, H⟩ := hb
 refine GoO.effC (ef_call rfl (Qm _) (Qm _) (strings_Contains_spec p0 (⟨#[10]⟩ : ByteArray) e3) (Qq (Qp _ _) (Qq (Qp _ _) (Qz))) rfl (strings_Contains_I (r2))) (fun rr HH hp => ?_)
 obtain ⟨rfl, rfl⟩ := hp
 refine Qa (ps_pickF rfl rfl rfl) ?_
 refine Qa (Qi rfl rfl) ?_
 refine Qo (Qe ?_)
 obtain rfl := Qf H
 exact Jh (ds := [.v (.bool r2)]) Tryd.results9 (Qt (Qv rfl) (Je)) (Qm _) ⟨rfl, rfl⟩
 replace H := Jt h1 H
 refine Ja rfl rfl rfl rfl ?_
 refine Qa (ps_pickT rfl rfl rfl) ?_
 refine Qa (Qi rfl rfl) ?_
 refine Qo (Qe ?_)
 obtain rfl := Qf H
 exact Jh (ds := [.v (.bool true)]) Tryd.results9 (Qt (Qv rfl) (Je)) (Qm _) ⟨rfl, rfl⟩
def slices_IndexFunc_string_weirkeep_DeskCounts_c1_B1 (p0 : (List ByteArray)) : Nat → Unit → Option (Ct (Unit) (Int)) := fun k5 _ =>
 (weirkeep_DeskCounts_c1_F (p0.getD k5 El.d)).bind fun r7 =>
 if r7 = true then
  some (.ret ((k5 : Nat) : Int))
 else
  some (.go ())
def slices_IndexFunc_string_weirkeep_DeskCounts_c1_F (p0 : (List ByteArray)) : Option (Int) :=
 (forC (slices_IndexFunc_string_weirkeep_DeskCounts_c1_B1 p0) p0.length 0 ()).bind fun q => match q with
 | .go _ =>
  some (-1)
 | .ret x => some x
def slices_IndexFunc_string_weirkeep_DeskCounts_c1_P (out : Int) (d : D) (H : List HL) : Prop := d = .v (.int .i64 out) ∧ H = []
theorem slices_IndexFunc_string_weirkeep_DeskCounts_c1_I (out : Int) : IndepP (slices_IndexFunc_string_weirkeep_DeskCounts_c1_P out) := IndepP.of (by rintro _ _ ⟨rfl, rfl⟩; exact ⟨inferInstance, inferInstance⟩)
set_option maxRecDepth 100000 in
set_option maxHeartbeats 4000000 in
theorem slices_IndexFunc_string_weirkeep_DeskCounts_c1_spec (p0 : (List ByteArray)) {out : Int} (H : slices_IndexFunc_string_weirkeep_DeskCounts_c1_F p0 = some out) : Does Tryd.prog 14 [slD p0, .fn 9 0 (nth [])] [] (slices_IndexFunc_string_weirkeep_DeskCounts_c1_P out) := by
 unfold slices_IndexFunc_string_weirkeep_DeskCounts_c1_F at H
 refine Does.intro Tryd.func14 rfl Tryd.ntmps14 rfl fun w0 I0 tb0 => ?_
 refine Qj (Qc ?_)
 refine Qa (Qi rfl rfl) ?_
 refine Qo (Qe (Qj (Qj (Qc ?_))))
 refine Qa (Ql rfl rfl) ?_
 refine Qa (ps_len rfl (by constructor) rfl) ?_
 refine GoO.lenLe (n := p0.length) (x := .tmp 6) rfl (by constructor) sl_lenLe (fun ml1 => ?_)
 refine Qa (Ql rfl rfl) ?_
 refine Qo (Qe ?_)
 have hb := Jd H; clear H
 obtain ⟨q4, hl10, HK2⟩ := hb
 refine GoC.blockJ [] [] (fun v h => q4 = .go () ∧ v = [] ∧ h = []) ?_ ?_
 refine GoC.loopJ [(0, _), (1, _), (7, _)] [] (fun mQ v h => ∃ (k5 : Nat), (k5 + mQ = p0.length ∧ forC (slices_IndexFunc_string_weirkeep_DeskCounts_c1_B1 p0) mQ k5 () = some q4) ∧ v = [(8, .v (.int .i64 ((k5 : Nat) : Int)))] ∧ h = []) p0.length ⟨_, ⟨by omega, hl10⟩, rfl, rfl⟩ (Qg rfl (Qg rfl (Qg rfl (Qg rfl (Qy))))) (Jb _) ?_
 rintro m6 v h ⟨k5, ⟨hkk5, hF3⟩, rfl, rfl⟩
 refine Qj (Qc ?_)
 refine Qa (ps_lss rfl rfl rfl) ?_
 refine Qo (Qe (Qj ?_))
 refine Jc rfl (fun (hk5 : (k5 : Int) < ((p0.length : Nat) : Int)) => ?_) (fun (hk5 : ¬ (k5 : Int) < ((p0.length : Nat) : Int)) => ?_)
 obtain ⟨m6', rfl⟩ : ∃ x, m6 = x + 1 := ⟨m6 - 1, by omega⟩
 have hb := Jd hF3; clear hF3
 obtain ⟨qrm6, H, hF3⟩ := hb
 have hnk5 : k5 < p0.length := by omega
 have hIk5 : InI ((k5 : Int) + 1) := inI_len hk5 ml1
 refine Jg (Qe (Qj (GoC.block (Qj (Qc ?_)))))
 refine Qa (Ql rfl rfl) ?_
 refine Qa (Qi rfl rfl) ?_
 refine Qo (Qe (Qj (Qc ?_)))
 refine Qa (Ql rfl rfl) ?_
 refine Qa (Ql rfl rfl) ?_
 refine Qa (Ql rfl rfl) ?_
 refine Qa (ps_indexAddrRN rfl rfl hnk5 rfl) ?_
 refine Qa (ps_loadR rfl hnk5 rfl rfl) ?_
 have hb := Jd H; clear H
 obtain ⟨r7, e8, H⟩ := hb
 refine GoO.effC (ef_callv rfl rfl rfl (Qm _) (Qm _) (weirkeep_DeskCounts_c1_spec (p0.getD k5 El.d) e8) (Qq (Qp _ _) (Qz)) rfl (weirkeep_DeskCounts_c1_I (r7))) (fun rr HH hp => ?_)
 obtain ⟨rfl, rfl⟩ := hp
 refine Qo (Qe ?_)
 refine GoC.cond rfl (fun h9 => ?_) (fun h9 => ?_)
 replace H := itb_t h9 H
 refine Qj (Qc ?_)
 refine Qa (Ql rfl rfl) ?_
 refine Qa (Qi rfl rfl) ?_
 refine Qo (Qe ?_)
 obtain rfl := Qf H
 obtain rfl := Qf hF3
 obtain rfl := Qf HK2
 exact Jh (ds := [.v (.int .i64 ((k5 : Nat) : Int))]) Tryd.results14 (Qt (Qv rfl) (Je)) (Qm _) ⟨rfl, rfl⟩
 replace H := itb_f h9 H
 refine Jg (GoK.blk (Qe (Qc ?_)))
 refine Qa (ps_add rfl rfl rfl hIk5) ?_
 refine Qa (Ql rfl rfl) ?_
 refine Qo ?_
 obtain rfl := Qf H
 exact GoK.againJ m6' (by omega) ⟨_, ⟨by omega, hF3⟩, rfl, rfl⟩ (Qg rfl (Qg rfl (Qg rfl (Qg rfl (Qy))))) (Jb _)
 obtain rfl : m6 = 0 := by omega
 refine GoC.exit rfl ?_
 cases hF3
 exact Jr ⟨rfl, rfl, rfl⟩ (Qy) (Jb _)
 rintro v h ⟨rfl, rfl, rfl⟩
 have H := HK2; clear HK2
 refine Qe (Qj (Qc ?_))
 refine Qa (Qi rfl rfl) ?_
 refine Qo (Qe ?_)
 obtain rfl := Qf H
 exact Jh (ds := [.v (.int .i64 (-1))]) Tryd.results14 (Qt (Qv rfl) (Je)) (Qm _) ⟨rfl, rfl⟩
def slices_ContainsFunc_string_weirkeep_DeskCounts_c1_F (p0 : (List ByteArray)) : Option (Bool) :=
 (slices_IndexFunc_string_weirkeep_DeskCounts_c1_F p0).bind fun r1 =>
 some (decide (0 ≤ r1))
def slices_ContainsFunc_string_weirkeep_DeskCounts_c1_P (out : Bool) (d : D) (H : List HL) : Prop := d = .v (.bool out) ∧ H = []
theorem slices_ContainsFunc_string_weirkeep_DeskCounts_c1_I (out : Bool) : IndepP (slices_ContainsFunc_string_weirkeep_DeskCounts_c1_P out) := IndepP.of (by rintro _ _ ⟨rfl, rfl⟩; exact ⟨inferInstance, inferInstance⟩)
set_option maxRecDepth 100000 in
set_option maxHeartbeats 4000000 in
theorem slices_ContainsFunc_string_weirkeep_DeskCounts_c1_spec (p0 : (List ByteArray)) {out : Bool} (H : slices_ContainsFunc_string_weirkeep_DeskCounts_c1_F p0 = some out) : Does Tryd.prog 8 [slD p0, .fn 9 0 (nth [])] [] (slices_ContainsFunc_string_weirkeep_DeskCounts_c1_P out) := by
 unfold slices_ContainsFunc_string_weirkeep_DeskCounts_c1_F at H
 refine Does.intro Tryd.func8 rfl Tryd.ntmps8 rfl fun w0 I0 tb0 => ?_
 refine Qj (Qc ?_)
 refine Qa (Qi rfl rfl) ?_
 refine Qo (Qe (Qj (Qc ?_)))
 refine Qa (Ql rfl rfl) ?_
 refine Qa (Ql rfl rfl) ?_
 have hb := Jd H; clear H
 obtain ⟨r1, e2, H⟩ := hb
 refine GoO.effC (ef_call rfl (Qm _) (Qm _) (slices_IndexFunc_string_weirkeep_DeskCounts_c1_spec p0 e2) (Qq (Qp _ _) (Qq (Lend.fn (Qz)) (Qz))) rfl (slices_IndexFunc_string_weirkeep_DeskCounts_c1_I (r1))) (fun rr HH hp => ?_)
 obtain ⟨rfl, rfl⟩ := hp
 refine Qa (ps_geq rfl rfl rfl) ?_
 refine Qa (Qi rfl rfl) ?_
 refine Qo (Qe ?_)
 obtain rfl := Qf H
 exact Jh (ds := [.v (.bool (decide (0 ≤ r1)))]) Tryd.results8 (Qt (Qv rfl) (Je)) (Qm _) ⟨rfl, rfl⟩
def weirkeep_DeskCounts_B1 (r14 : (List ByteArray)) : Nat → Nat → Option (Nat) := fun k23 n18 =>
 if (r14.getD k23 El.d) ≠ (⟨#[]⟩ : ByteArray) then
  ck (InI (((n18 : Nat) : Int) + 1)) <|
  some (n18 + 1)
 else
  some n18
def weirkeep_DeskCounts_F (script : ByteArray) : Option (Bool) :=
 (desk_Run_F (⟨#[100, 101, 103, 114, 101, 101, 115, 10, 10, 116, 114, 101, 101, 115]⟩ : ByteArray)).bind fun (r1, r3) =>
 if r3 ≠ 0 then
  some false
 else
  (slices_Equal_string_F r1 ([(⟨#[48, 47, 48, 32, 48, 47, 48, 32, 46]⟩ : ByteArray), (⟨#[48]⟩ : ByteArray)] : List ByteArray)).bind fun r7 =>
  if (!r7) = true then
   some false
  else
   (desk_Run_F script).bind fun (r10, r12) =>
   (strings_Split_F script (⟨#[10]⟩ : ByteArray)).bind fun r14 =>
   (forN (weirkeep_DeskCounts_B1 r14) r14.length 0 0).bind fun n22 =>
   if r12 ≠ 0 then
    some true
   else
    if ((r10.length : Nat) : Int) = ((n22 : Nat) : Int) then
     (slices_ContainsFunc_string_weirkeep_DeskCounts_c1_F r10).bind fun r31 =>
     some (!r31)
    else
     some false
def weirkeep_DeskCounts_P (out : Bool) (d : D) (H : List HL) : Prop := d = .v (.bool out) ∧ H = []
set_option maxRecDepth 100000 in
set_option maxHeartbeats 4000000 in
theorem weirkeep_DeskCounts_spec (script : ByteArray) {out : Bool} (H : weirkeep_DeskCounts_F script = some out) : Does Tryd.prog 4 [.v (.string script)] [] (weirkeep_DeskCounts_P out) := by
 unfold weirkeep_DeskCounts_F at H
 refine Does.intro Tryd.func4 rfl Tryd.ntmps4 rfl fun w0 I0 tb0 => ?_
 refine Qj (Qc ?_)
 refine Qa (Qi rfl rfl) ?_
 refine Qo (Qe (Qj (Qj (Qc ?_))))
 have hb := Jd H; clear H
 obtain ⟨⟨r1, r3⟩, e4, H⟩ := hb
 refine GoO.effC (ef_call rfl (Qm _) (Qm _) (desk_Run_spec (⟨#[100, 101, 103, 114, 101, 101, 115, 10, 10, 116, 114, 101, 101, 115]⟩ : ByteArray) e4) (Qq (Qp _ _) (Qz)) rfl (desk_Run_I (r1, r3))) (fun rr HH hp => ?_)
 obtain ⟨β2, rfl, rfl⟩ := hp
 refine Qa (Ql rfl rfl) ?_
 refine Qa (Ji rfl rfl rfl) ?_
 refine Qa (Ji rfl rfl rfl) ?_
 refine Qa (Qi rfl rfl) ?_
 refine Qa (Qi rfl rfl) ?_
 refine Qo (Qe (Qj (Qc ?_)))
 refine Qa (Ql rfl rfl) ?_
 refine Qa (ps_neq rfl rfl rfl) ?_
 refine Qa (Ql rfl rfl) ?_
 refine GoO.guardE rfl rfl rfl rfl (fun h5 => ?_) (fun h5 => ?_)
 replace H := Ju h5 H
 refine Qa (Ql rfl rfl) ?_
 refine Jl rfl rfl rfl ?_
 refine Jq (ef_buildSlice (row ([(⟨#[48, 47, 48, 32, 48, 47, 48, 32, 46]⟩ : ByteArray), (⟨#[48]⟩ : ByteArray)] : List ByteArray)) rfl (Jn _ _ _ _ _ _ _ _ ⟨rfl, rfl⟩ (Part.one _ rfl rfl) rfl rfl (Jn _ _ _ _ _ _ _ _ ⟨rfl, rfl⟩ (Part.one _ rfl rfl) rfl rfl (Parts.nil _))) rfl rfl rfl rfl) (fun β6 => ?_)
 refine Jl rfl rfl rfl ?_
 have hb := Jd H; clear H
 obtain ⟨r7, e8, H⟩ := hb
 refine GoO.effC (ef_call rfl (Qm _) (Qd _ _ _ _ _ Jk (Qd _ _ _ _ _ Qk (Qm _))) (slices_Equal_string_spec r1 ([(⟨#[48, 47, 48, 32, 48, 47, 48, 32, 46]⟩ : ByteArray), (⟨#[48]⟩ : ByteArray)] : List ByteArray) e8) (Qq (Lend.all' Qw (by first | rfl | omega | (simp only [szl] <;> first | rfl | omega)) rfl) (Qq (Lend.all' Js (by first | rfl | omega | (simp only [szl] <;> first | rfl | omega)) rfl) (Qz))) rfl (slices_Equal_string_I (r7))) (fun rr HH hp => ?_)
 obtain ⟨rfl, rfl⟩ := hp
 refine Jl rfl rfl rfl ?_
 refine Qa (ps_not rfl rfl) ?_
 refine Qa (ps_pickF rfl rfl rfl) ?_
 refine Qo (Qe ?_)
 refine GoC.cond rfl (fun h9 => ?_) (fun h9 => ?_)
 replace H := itb_t h9 H
 refine Qj (Qc ?_)
 refine Qa (Qi rfl rfl) ?_
 refine Qo (Qe ?_)
 obtain rfl := Qf H
 exact Jh (ds := [.v (.bool false)]) Tryd.results4 (Qt (Qv rfl) (Je)) (Qm _) ⟨rfl, rfl⟩
 replace H := itb_f h9 H
 refine Jg (Qe (Qj (Qc ?_)))
 refine Qa (Ql rfl rfl) ?_
 have hb := Jd H; clear H
 obtain ⟨⟨r10, r12⟩, e13, H⟩ := hb
 refine GoO.effC (ef_call rfl (Qm _) (Qm _) (desk_Run_spec script e13) (Qq (Qp _ _) (Qz)) rfl (desk_Run_I (r10, r12))) (fun rr HH hp => ?_)
 obtain ⟨β11, rfl, rfl⟩ := hp
 refine Qa (Ql rfl rfl) ?_
 refine Qa (Ji rfl rfl rfl) ?_
 refine Qa (Ji rfl rfl rfl) ?_
 refine Qa (Qi rfl rfl) ?_
 refine Qa (Qi rfl rfl) ?_
 refine Qo (Qe (Qj (Qc ?_)))
 refine Qa (Qi rfl rfl) ?_
 refine Qo (Qe (Qj (Qj (Qc ?_))))
 refine Qa (Ql rfl rfl) ?_
 have hb := Jd H; clear H
 obtain ⟨r14, e16, H⟩ := hb
 refine GoO.effC (ef_call rfl (Qm _) (Qm _) (strings_Split_spec script (⟨#[10]⟩ : ByteArray) e16) (Qq (Qp _ _) (Qq (Qp _ _) (Qz))) rfl (strings_Split_I (r14))) (fun rr HH hp => ?_)
 obtain ⟨β15, rfl, rfl⟩ := hp
 refine Qa (ps_len rfl (by constructor) rfl) ?_
 refine GoO.lenLe (n := r14.length) (x := .tmp 28) rfl (by constructor) own_lenLe (fun ml17 => ?_)
 refine Qa (Ql rfl rfl) ?_
 refine Qo (Qe ?_)
 have hb := Jd H; clear H
 obtain ⟨n22, hl27, HK19⟩ := hb
 refine GoC.blockJ [(5, .own β11 1 0 r10.length), (6, .v (.int .i64 r12))] [.one β15 9 1 (row r14), .one β11 9 1 (row r10), .one β6 9 1 (row ([(⟨#[48, 47, 48, 32, 48, 47, 48, 32, 46]⟩ : ByteArray), (⟨#[48]⟩ : ByteArray)] : List ByteArray)), .one β2 9 1 (row r1)] (fun v h => v = [(7, .v (.int .i64 ((n22 : Nat) : Int)))] ∧ h = []) ?_ ?_
 refine GoC.loopJ [(5, _), (6, _), (28, _), (29, _)] [.one β15 9 1 (row r14), .one β11 9 1 (row r10), .one β6 9 1 (row ([(⟨#[48, 47, 48, 32, 48, 47, 48, 32, 46]⟩ : ByteArray), (⟨#[48]⟩ : ByteArray)] : List ByteArray)), .one β2 9 1 (row r1)] (fun mQ v h => ∃ (k23 : Nat) (n18 : Nat), (k23 + mQ = r14.length ∧ forN (weirkeep_DeskCounts_B1 r14) mQ k23 n18 = some n22) ∧ v = [(30, .v (.int .i64 ((k23 : Nat) : Int))), (7, .v (.int .i64 ((n18 : Nat) : Int)))] ∧ h = []) r14.length ⟨_, _, ⟨by omega, hl27⟩, rfl, rfl⟩ (Qg rfl (Qg rfl (Qg rfl (Qg rfl (Qg rfl (Qg rfl (Qy))))))) (Qn _ _ _ _ _ Qk (Qr _) (Qn _ _ _ _ _ Qk (Qr _) (Qn _ _ _ _ _ Qk (Qr _) (Qn _ _ _ _ _ Qk (Qr _) (Jb _))))) ?_
 rintro m24 v h ⟨k23, n18, ⟨hkk23, hF20⟩, rfl, rfl⟩
 refine Qj (Qc ?_)
 refine Qa (ps_lss rfl rfl rfl) ?_
 refine Qo (Qe (Qj ?_))
 refine Jc rfl (fun (hk23 : (k23 : Int) < ((r14.length : Nat) : Int)) => ?_) (fun (hk23 : ¬ (k23 : Int) < ((r14.length : Nat) : Int)) => ?_)
 obtain ⟨m24', rfl⟩ : ∃ x, m24 = x + 1 := ⟨m24 - 1, by omega⟩
 have hb := Jd hF20; clear hF20
 obtain ⟨qrm24, H, hF20⟩ := hb
 have hnk23 : k23 < r14.length := by omega
 have hIk23 : InI ((k23 : Int) + 1) := inI_len hk23 ml17
 refine Jg (Qe (Qj (GoC.block (Qj (Qc ?_)))))
 refine Qa (ps_indexAddr0N rfl rfl hnk23 rfl) ?_
 refine Qa (Jf rfl Qw Qw hnk23 rfl rfl) ?_
 refine Qa (Qi rfl rfl) ?_
 refine Qo (Qe (Qj (Qc ?_)))
 refine Qa (Ql rfl rfl) ?_
 refine Qa (ps_neqStr rfl rfl rfl) ?_
 refine Qo (Qe ?_)
 refine Jc rfl (fun h25 => ?_) (fun h25 => ?_)
 replace H := Jt h25 H
 refine Qc ?_
 refine Qa (Ql rfl rfl) ?_
 have c26 := ck_l H; replace H := ck_r H
 refine Qa (ps_add rfl rfl rfl c26) ?_
 refine Qa (Qi rfl rfl) ?_
 refine Qo (GoK.blk (Qe (Qc ?_)))
 refine Qa (ps_add rfl rfl rfl hIk23) ?_
 refine Qa (Ql rfl rfl) ?_
 refine Qo ?_
 obtain rfl := Qf H
 exact GoK.againJ m24' (by omega) ⟨_, _, ⟨by omega, hF20⟩, rfl, rfl⟩ (Qg rfl (Qg rfl (Qg rfl (Qg rfl (Qg rfl (Qg rfl (Qy))))))) (Qn _ _ _ _ _ Qk (Qr _) (Qn _ _ _ _ _ Qk (Qr _) (Qn _ _ _ _ _ Qk (Qr _) (Qn _ _ _ _ _ Qk (Qr _) (Jb _)))))
 replace H := Ju h25 H
 refine Jg (GoK.blk (Qe (Qc ?_)))
 refine Qa (ps_add rfl rfl rfl hIk23) ?_
 refine Qa (Ql rfl rfl) ?_
 refine Qo ?_
 obtain rfl := Qf H
 exact GoK.againJ m24' (by omega) ⟨_, _, ⟨by omega, hF20⟩, rfl, rfl⟩ (Qg rfl (Qg rfl (Qg rfl (Qg rfl (Qg rfl (Qg rfl (Qy))))))) (Qn _ _ _ _ _ Qk (Qr _) (Qn _ _ _ _ _ Qk (Qr _) (Qn _ _ _ _ _ Qk (Qr _) (Qn _ _ _ _ _ Qk (Qr _) (Jb _)))))
 obtain rfl : m24 = 0 := by omega
 refine GoC.exit rfl ?_
 cases hF20
 exact Jr ⟨rfl, rfl⟩ (Qg rfl (Qg rfl (Qg rfl (Qy)))) (Qn _ _ _ _ _ Qk (Qr _) (Qn _ _ _ _ _ Qk (Qr _) (Qn _ _ _ _ _ Qk (Qr _) (Qn _ _ _ _ _ Qk (Qr _) (Jb _)))))
 rintro v h ⟨rfl, rfl⟩
 have H := HK19; clear HK19
 refine Qe (Qj (Qc ?_))
 refine Qa (Ql rfl rfl) ?_
 refine Qa (ps_neq rfl rfl rfl) ?_
 refine Qa (Ql rfl rfl) ?_
 refine GoO.guardE rfl rfl rfl rfl (fun h28 => ?_) (fun h28 => ?_)
 replace H := Ju h28 H
 refine Qa (Ql rfl rfl) ?_
 refine Jl rfl rfl rfl ?_
 refine Qa (ps_len rfl (by constructor) rfl) ?_
 refine GoO.lenLe (n := r10.length) (x := .tmp 42) rfl (by constructor) own_lenLe (fun ml29 => ?_)
 refine Jl rfl rfl rfl ?_
 refine Qa (Ql rfl rfl) ?_
 refine Jl rfl rfl rfl ?_
 refine Qa (ps_eql rfl rfl rfl) ?_
 refine Jl rfl rfl rfl ?_
 refine Qa (Ql rfl rfl) ?_
 refine GoO.guardD rfl rfl rfl rfl (fun h30 => ?_) (fun h30 => ?_)
 replace H := Jt h30 H
 refine Qa (Ql rfl rfl) ?_
 refine Jl rfl rfl rfl ?_
 have hb := Jd H; clear H
 obtain ⟨r31, e32, H⟩ := hb
 refine GoO.effC (ef_call rfl (Qm _) (Qd _ _ _ _ _ Jk (Qm _)) (slices_ContainsFunc_string_weirkeep_DeskCounts_c1_spec r10 e32) (Qq (Lend.all' Qw (by first | rfl | omega | (simp only [szl] <;> first | rfl | omega)) rfl) (Qq (Lend.fnV) (Qz))) rfl (slices_ContainsFunc_string_weirkeep_DeskCounts_c1_I (r31))) (fun rr HH hp => ?_)
 obtain ⟨rfl, rfl⟩ := hp
 refine Jl rfl rfl rfl ?_
 refine Qa (ps_not rfl rfl) ?_
 refine Jl rfl rfl rfl ?_
 refine Qa (ps_pickT rfl rfl rfl) ?_
 refine Qa (ps_pickF rfl rfl rfl) ?_
 refine Qa (Qi rfl rfl) ?_
 refine Qo (Qe ?_)
 obtain rfl := Qf H
 exact Jh (ds := [.v (.bool (!r31))]) Tryd.results4 (Qt (Qv rfl) (Je)) (Qm _) ⟨rfl, rfl⟩
 replace H := Ju h30 H
 refine Ja rfl rfl rfl rfl ?_
 refine Ja rfl rfl rfl rfl ?_
 refine Jl rfl rfl rfl ?_
 refine Qa (ps_pickF rfl rfl rfl) ?_
 refine Qa (ps_pickF rfl rfl rfl) ?_
 refine Qa (Qi rfl rfl) ?_
 refine Qo (Qe ?_)
 obtain rfl := Qf H
 exact Jh (ds := [.v (.bool false)]) Tryd.results4 (Qt (Qv rfl) (Je)) (Qm _) ⟨rfl, rfl⟩
 replace H := Jt h28 H
 refine Ja rfl rfl rfl rfl ?_
 refine Ja rfl rfl rfl rfl ?_
 refine Ja rfl rfl rfl rfl ?_
 refine Ja rfl rfl rfl rfl ?_
 refine GoO.guardU rfl rfl rfl rfl ?_
 refine GoO.guardU rfl rfl rfl rfl ?_
 refine GoO.guardU rfl rfl rfl rfl ?_
 refine Ja rfl rfl rfl rfl ?_
 refine Qa (ps_pickT rfl rfl rfl) ?_
 refine Qa (Qi rfl rfl) ?_
 refine Qo (Qe ?_)
 obtain rfl := Qf H
 exact Jh (ds := [.v (.bool true)]) Tryd.results4 (Qt (Qv rfl) (Je)) (Qm _) ⟨rfl, rfl⟩
 replace H := Jt h5 H
 refine Ja rfl rfl rfl rfl ?_
 refine Ja rfl rfl rfl rfl ?_
 refine Ja rfl rfl rfl rfl ?_
 refine Qa (ps_pickT rfl rfl rfl) ?_
 refine Qo (Qe ?_)
 refine GoC.condT rfl ?_
 refine Qj (Qc ?_)
 refine Qa (Qi rfl rfl) ?_
 refine Qo (Qe ?_)
 obtain rfl := Qf H
 exact Jh (ds := [.v (.bool false)]) Tryd.results4 (Qt (Qv rfl) (Je)) (Qm _) ⟨rfl, rfl⟩
end Go.Proofs.YthchdnemndolbaaDoor
namespace Go.Proofs.YthchdnemndolbaaDoor
open Go Go.Proofs.YthchdnemndolbaaDoor.Sx
set_option linter.unusedVariables false
set_option linter.unusedSimpArgs false
theorem counts_line : desk_Run_F (⟨#[100, 101, 103, 114, 101, 101, 115, 10, 10, 116, 114, 101, 101, 115]⟩ : ByteArray) = some ([(⟨#[48, 47, 48, 32, 48, 47, 48, 32, 46]⟩ : ByteArray), (⟨#[48]⟩ : ByteArray)], 0) := by kernel_rfl
theorem counted (l : List ByteArray) (hl : l.length ≤ 10000000) : forN (weirkeep_DeskCounts_B1 l) l.length 0 0 = some (fullLines l) := by
  have h := (forN_list (f := weirkeep_DeskCounts_B1 l) l El.d (fun n t => if t ≠ ⟨#[]⟩ then n + 1 else n) (fun k n => n ≤ k) (s := 0) (Nat.le_refl _) fun j n hj hn => by
    unfold weirkeep_DeskCounts_B1
    by_cases c : l.getD j El.d ≠ (⟨#[]⟩ : ByteArray)
    · rw [if_pos c, if_pos c, ck_some (inI_small (by omega) (by omega))]
      exact ⟨rfl, by omega⟩
    · rw [if_neg c, if_neg c]
      exact ⟨rfl, by omega⟩).1
  rw [h]
  have key : ∀ (m : List ByteArray) (k : Nat), m.foldl (fun n t => if t ≠ (⟨#[]⟩ : ByteArray) then n + 1 else n) k = k + fullLines m := fun m => by
    induction m with
    | nil => intro k; rfl
    | cons a m ih =>
      intro k
      rw [List.foldl_cons, ih]
      unfold fullLines
      by_cases c : a ≠ (⟨#[]⟩ : ByteArray)
      · rw [if_pos c, List.filter_cons_of_pos (by simpa using c)]; simp; omega
      · rw [if_neg c, List.filter_cons_of_neg (by simpa using c)]
  rw [key, Nat.zero_add]
theorem none_bad (l : List ByteArray) (h : ∀ t, t ∈ l → Txt 600 t) : slices_ContainsFunc_string_weirkeep_DeskCounts_c1_F l = some false := by
  have hf : forC (slices_IndexFunc_string_weirkeep_DeskCounts_c1_B1 l) l.length 0 () = some (.go ()) := forC_all fun j _ hj => by
    have ht := h _ (mem_getD (d := El.d) (show j < l.length by omega))
    unfold slices_IndexFunc_string_weirkeep_DeskCounts_c1_B1 weirkeep_DeskCounts_c1_F
    rw [if_neg (fun e => by have := ht.pos; rw [e] at this; exact absurd this (by decide)), contains_no ht.ln, bind_some', bind_some', if_neg (by decide)]
  unfold slices_ContainsFunc_string_weirkeep_DeskCounts_c1_F slices_IndexFunc_string_weirkeep_DeskCounts_c1_F
  rw [hf]
  rfl
theorem DeskCounts_true (s : ByteArray) (hs : s.size ≤ 1048576) : weirkeep_DeskCounts_F s = some true := by
  unfold weirkeep_DeskCounts_F
  rw [counts_line, bind_some']
  dsimp only
  have hlen := cutB_len 10 s
  rw [if_neg (by decide), equalStr_eq, decide_eq_true rfl, bind_some', if_neg (by decide), run_eq s (by omega)]
  by_cases c : 4096 < s.size ∨ 60 < (linesOf s).length
  · rw [if_pos c, bind_some']
    dsimp only
    rw [split_eq (by omega), bind_some', counted _ (by omega), bind_some', if_pos (by decide)]
  · rw [if_neg c, bind_some']
    dsimp only
    have ho := out_ok s (by omega)
    rw [split_eq (by omega), bind_some', counted _ (by omega), bind_some', if_neg (by decide), if_pos (by rw [ho.len]; rfl), none_bad _ ho.txt, bind_some']
    rfl
end Go.Proofs.YthchdnemndolbaaDoor
