import Derived.Test.YthchdnemndolbaaDoorQTys
import Derived.Test.YthchdnemndolbaaDoorQDat
import Derived.Test.YthchdnemndolbaaDoorQShelf
import Derived.Test.YthchdnemndolbaaDoorQGassign
import Derived.Test.YthchdnemndolbaaDoorQGcolour
import Derived.Test.YthchdnemndolbaaDoorQGgraph
import Derived.Test.YthchdnemndolbaaDoorQGstore
import Derived.Test.YthchdnemndolbaaDoorQGtree
namespace Go.Proofs.YthchdnemndolbaaDoor
open Go Go.Proofs.YthchdnemndolbaaDoor.Sx
set_option linter.unusedVariables false
set_option linter.unusedSimpArgs false
def desk_must_F (e_ : Int) : Option (Thr (Unit) (Int)) :=
 if e_ ≠ 0 then
  some (.ex e_)
 else
  some (.ok ())
def desk_must_P (out : Unit) (d : D) (H : List HL) : Prop := d = .tp 0 (nth []) ∧ H = []
theorem desk_must_I (out : Unit) : IndepP (desk_must_P out) := IndepP.of (by rintro _ _ ⟨rfl, rfl⟩; exact ⟨inferInstance, inferInstance⟩)
def desk_must_T (out : Int) (d : D) (H : List HL) : Prop := d = .v (.iface 51 (.agg #[.int .i64 out])) ∧ H = []
theorem desk_must_J (out : Int) : IndepP (desk_must_T out) := IndepP.of (by rintro _ _ ⟨rfl, rfl⟩; exact ⟨inferInstance, inferInstance⟩)
set_option maxRecDepth 100000 in
set_option maxHeartbeats 4000000 in
theorem desk_must_spec (e_ : Int) {out : Thr (Unit) (Int)} (H : desk_must_F e_ = some out) : DoesT Tryd.prog 18 [.v (.int .i64 e_)] [] (fun d H => ∃ o, out = .ok o ∧ desk_must_P o d H) (fun d H => ∃ o, out = .ex o ∧ desk_must_T o d H) := by
 unfold desk_must_F at H
 refine DoesT.intro Tryd.func18 rfl Tryd.ntmps18 rfl fun w0 I0 tb0 => ?_
 refine Qj (Qc ?_)
 refine Qa (Ql rfl rfl) ?_
 refine Qa (ps_neq rfl rfl rfl) ?_
 refine Qo (Qe ?_)
 refine Jc rfl (fun h1 => ?_) (fun h1 => ?_)
 replace H := Jt h1 H
 refine Qc ?_
 refine Qa (Ql rfl rfl) ?_
 refine Qa (ps_build (Jn _ _ _ _ _ _ _ _ FdP.of (Part.one _ rfl rfl) rfl rfl (Parts.nil _)) rfl) ?_
 refine Qa (ps_mkIface rfl rfl) ?_
 refine GoO.panic rfl ?_
 obtain rfl := Qf H
 exact GoT.ends (Qm _) ⟨_, rfl, rfl, rfl⟩
 replace H := Ju h1 H
 refine Jg ?_
 obtain rfl := Qf H
 exact GoK.retLT (ds := []) Tryd.results18 (Je) (Qm _) ⟨_, rfl, rfl, rfl⟩
def desk_number_B1 (text : ByteArray) : Nat → Int → Option (Ct (Int) (Thr (Int) (Int))) := fun k18 x13 =>
 ((
  if (((bytesL text).getD k18 El.d).v) < 48 then
   (desk_must_F 12).bind fun q => q.on (fun x29 =>
    some (.ret (.ret (.ex x29)))) fun () =>
   some (.go ())
  else
   if 57 < (((bytesL text).getD k18 El.d).v) then
    (desk_must_F 12).bind fun q => q.on (fun x26 =>
     some (.ret (.ret (.ex x26)))) fun () =>
    some (.go ())
   else
    some (.go ())) : Option (Ex (Unit) (Ct (Int) (Thr (Int) (Int))))).bind fun q => match q with
 | .go () =>
  ck (InI (10 * x13)) <|
  ck (InI ((10 * x13) + (IntKind.i64.wrap (IntKind.u8.wrap ((((bytesL text).getD k18 El.d).v) - 48))))) <|
  some (.go ((10 * x13) + (IntKind.i64.wrap (IntKind.u8.wrap ((((bytesL text).getD k18 El.d).v) - 48)))))
 | .ret x => some x
def desk_number_F (text : ByteArray) : Option (Thr (Int) (Int)) :=
 ((
  if ((text.size : Nat) : Int) < 1 then
   (desk_must_F 12).bind fun q => q.on (fun x10 =>
    some (.ret (.ex x10))) fun () =>
   some (.go ())
  else
   if 4 < ((text.size : Nat) : Int) then
    (desk_must_F 12).bind fun q => q.on (fun x7 =>
     some (.ret (.ex x7))) fun () =>
    some (.go ())
   else
    some (.go ())) : Option (Ex (Unit) (Thr (Int) (Int)))).bind fun q => match q with
 | .go () =>
  ck (text.size ≤ 1000) <|
  (forC (desk_number_B1 text) ((bytesL text).length) 0 0).bind fun q => match q with
  | .go x17 =>
   some (.ok x17)
  | .ret x => some x
 | .ret x => some x
def desk_number_P (out : Int) (d : D) (H : List HL) : Prop := d = .v (.int .i64 out) ∧ H = []
theorem desk_number_I (out : Int) : IndepP (desk_number_P out) := IndepP.of (by rintro _ _ ⟨rfl, rfl⟩; exact ⟨inferInstance, inferInstance⟩)
def desk_number_T (out : Int) (d : D) (H : List HL) : Prop := d = .v (.iface 51 (.agg #[.int .i64 out])) ∧ H = []
theorem desk_number_J (out : Int) : IndepP (desk_number_T out) := IndepP.of (by rintro _ _ ⟨rfl, rfl⟩; exact ⟨inferInstance, inferInstance⟩)
set_option maxRecDepth 100000 in
set_option maxHeartbeats 4000000 in
theorem desk_number_spec (text : ByteArray) {out : Thr (Int) (Int)} (H : desk_number_F text = some out) : DoesT Tryd.prog 40 [.v (.string text)] [] (fun d H => ∃ o, out = .ok o ∧ desk_number_P o d H) (fun d H => ∃ o, out = .ex o ∧ desk_number_T o d H) := by
 unfold desk_number_F at H
 refine DoesT.intro Tryd.func40 rfl Tryd.ntmps40 rfl fun w0 I0 tb0 => ?_
 refine Qj (Qc ?_)
 refine Qa (Qi rfl rfl) ?_
 refine Qo (Qe ?_)
 have hb := Jd H; clear H
 obtain ⟨q2, H, HK1⟩ := hb
 refine GoC.seqJ [(0, .v (.string text))] [] (fun v h => q2 = .go () ∧ v = [] ∧ h = []) ?_ ?_
 refine Qj (Qc ?_)
 refine Qa (Ql rfl rfl) ?_
 refine Qa (ps_lenS rfl rfl) ?_
 refine Qa (ps_lss rfl rfl rfl) ?_
 refine Qa (Ql rfl rfl) ?_
 refine GoO.guardE rfl rfl rfl rfl (fun h3 => ?_) (fun h3 => ?_)
 replace H := Ju h3 H
 refine Qa (Ql rfl rfl) ?_
 refine Jl rfl rfl rfl ?_
 refine Qa (ps_lenS rfl rfl) ?_
 refine Jl rfl rfl rfl ?_
 refine Qa (ps_gtr rfl rfl rfl) ?_
 refine Qa (ps_pickF rfl rfl rfl) ?_
 refine Qo (Qe ?_)
 refine Jc rfl (fun h4 => ?_) (fun h4 => ?_)
 replace H := Jt h4 H
 refine Qc ?_
 have hb := Jd H; clear H
 obtain ⟨q6, e5, H⟩ := hb
 refine GoO.callT false rfl (Qm _) (Qm _) (desk_must_spec 12 e5) (Qq (Qp _ _) (Qz)) rfl ⟨IndepP.ok (fun o => desk_must_I o), IndepP.ex (fun o => desk_must_J o)⟩ (fun rr HH hp => ?_) (fun rr HH hp => ?_)
 obtain ⟨x7, rfl, rfl, rfl⟩ := hp
 replace H := on_ex H
 obtain rfl := Qf H
 obtain rfl := Qf HK1
 exact GoT.ends (Qm _) ⟨_, rfl, rfl, rfl⟩
 obtain ⟨_, rfl, rfl, rfl⟩ := hp
 replace H := on_ok H
 refine Qo ?_
 obtain rfl := Qf H
 exact Jr ⟨rfl, rfl, rfl⟩ (Qg rfl (Qy)) (Jb _)
 replace H := Ju h4 H
 refine Jg ?_
 obtain rfl := Qf H
 exact Jr ⟨rfl, rfl, rfl⟩ (Qg rfl (Qy)) (Jb _)
 replace H := Jt h3 H
 refine Ja rfl rfl rfl rfl ?_
 refine Ja rfl rfl rfl rfl ?_
 refine Qa (ps_pickT rfl rfl rfl) ?_
 refine Qo (Qe ?_)
 refine GoC.condT rfl ?_
 refine Qc ?_
 have hb := Jd H; clear H
 obtain ⟨q9, e8, H⟩ := hb
 refine GoO.callT false rfl (Qm _) (Qm _) (desk_must_spec 12 e8) (Qq (Qp _ _) (Qz)) rfl ⟨IndepP.ok (fun o => desk_must_I o), IndepP.ex (fun o => desk_must_J o)⟩ (fun rr HH hp => ?_) (fun rr HH hp => ?_)
 obtain ⟨x10, rfl, rfl, rfl⟩ := hp
 replace H := on_ex H
 obtain rfl := Qf H
 obtain rfl := Qf HK1
 exact GoT.ends (Qm _) ⟨_, rfl, rfl, rfl⟩
 obtain ⟨_, rfl, rfl, rfl⟩ := hp
 replace H := on_ok H
 refine Qo ?_
 obtain rfl := Qf H
 exact Jr ⟨rfl, rfl, rfl⟩ (Qg rfl (Qy)) (Jb _)
 rintro v h ⟨rfl, rfl, rfl⟩
 have H := HK1; clear HK1
 refine Qj (Qc ?_)
 refine Qa (Qi rfl rfl) ?_
 refine Qo (Qe (Qj (Qj (Qc ?_))))
 refine Qa (Ql rfl rfl) ?_
 have c11 := ck_l H; replace H := ck_r H
 refine GoO.bytes rfl c11 rfl ?_
 refine Qa (ps_len rfl (by constructor) rfl) ?_
 refine GoO.lenLe (n := (bytesL text).length) (x := .tmp 16) rfl (by constructor) sl_lenLe (fun ml12 => ?_)
 refine Qa (Ql rfl rfl) ?_
 refine Qo (Qe ?_)
 have hb := Jd H; clear H
 obtain ⟨q16, hl32, HK14⟩ := hb
 refine GoC.blockJ [] [] (fun v h => ∃ (x17 : Int), q16 = .go x17 ∧ v = [(3, .v (.int .i64 x17))] ∧ h = []) ?_ ?_
 refine GoC.loopJ [(16, _), (17, _)] [] (fun mQ v h => ∃ (k18 : Nat) (x13 : Int), (k18 + mQ = (bytesL text).length ∧ forC (desk_number_B1 text) mQ k18 x13 = some q16) ∧ v = [(18, .v (.int .i64 ((k18 : Nat) : Int))), (3, .v (.int .i64 x13))] ∧ h = []) ((bytesL text).length) ⟨_, _, ⟨by omega, hl32⟩, rfl, rfl⟩ (Qg rfl (Qg rfl (Qg rfl (Qg rfl (Qy))))) (Jb _) ?_
 rintro m19 v h ⟨k18, x13, ⟨hkk18, hF15⟩, rfl, rfl⟩
 refine Qj (Qc ?_)
 refine Qa (ps_lss rfl rfl rfl) ?_
 refine Qo (Qe (Qj ?_))
 refine Jc rfl (fun (hk18 : (k18 : Int) < (((bytesL text).length : Nat) : Int)) => ?_) (fun (hk18 : ¬ (k18 : Int) < (((bytesL text).length : Nat) : Int)) => ?_)
 obtain ⟨m19', rfl⟩ : ∃ x, m19 = x + 1 := ⟨m19 - 1, by omega⟩
 have hb := Jd hF15; clear hF15
 obtain ⟨qrm19, H, hF15⟩ := hb
 have hnk18 : k18 < (bytesL text).length := by omega
 have hIk18 : InI ((k18 : Int) + 1) := inI_len hk18 ml12
 refine Jg (Qe (Qj (GoC.block (Qj (Qc ?_)))))
 refine Qa (ps_indexAddrRN rfl rfl hnk18 rfl) ?_
 refine Qa (ps_loadR rfl hnk18 rfl rfl) ?_
 refine Qa (Qi rfl rfl) ?_
 refine Qo (Qe ?_)
 have hb := Jd H; clear H
 obtain ⟨q21, H, HK20⟩ := hb
 refine GoC.seqJ [(3, .v (.int .i64 x13)), (5, .v (.int .u8 (((bytesL text).getD k18 El.d).v))), (16, slD (bytesL text)), (17, .v (.int .i64 (((bytesL text).length : Nat) : Int))), (18, .v (.int .i64 ((k18 : Nat) : Int)))] [] (fun v h => q21 = .go () ∧ v = [] ∧ h = []) ?_ ?_
 refine Qj (Qc ?_)
 refine Qa (Ql rfl rfl) ?_
 refine Qa (ps_lss rfl rfl rfl) ?_
 refine Qa (Ql rfl rfl) ?_
 refine GoO.guardE rfl rfl rfl rfl (fun h22 => ?_) (fun h22 => ?_)
 replace H := Ju h22 H
 refine Qa (Ql rfl rfl) ?_
 refine Jl rfl rfl rfl ?_
 refine Qa (ps_gtr rfl rfl rfl) ?_
 refine Qa (ps_pickF rfl rfl rfl) ?_
 refine Qo (Qe ?_)
 refine Jc rfl (fun h23 => ?_) (fun h23 => ?_)
 replace H := Jt h23 H
 refine Qc ?_
 have hb := Jd H; clear H
 obtain ⟨q25, e24, H⟩ := hb
 refine GoO.callT false rfl (Qm _) (Qm _) (desk_must_spec 12 e24) (Qq (Qp _ _) (Qz)) rfl ⟨IndepP.ok (fun o => desk_must_I o), IndepP.ex (fun o => desk_must_J o)⟩ (fun rr HH hp => ?_) (fun rr HH hp => ?_)
 obtain ⟨x26, rfl, rfl, rfl⟩ := hp
 replace H := on_ex H
 obtain rfl := Qf H
 obtain rfl := Qf HK20
 obtain rfl := Qf hF15
 obtain rfl := Qf HK14
 exact GoT.ends (Qm _) ⟨_, rfl, rfl, rfl⟩
 obtain ⟨_, rfl, rfl, rfl⟩ := hp
 replace H := on_ok H
 refine Qo ?_
 obtain rfl := Qf H
 exact Jr ⟨rfl, rfl, rfl⟩ (Qg rfl (Qg rfl (Qg rfl (Qg rfl (Qg rfl (Qy)))))) (Jb _)
 replace H := Ju h23 H
 refine Jg ?_
 obtain rfl := Qf H
 exact Jr ⟨rfl, rfl, rfl⟩ (Qg rfl (Qg rfl (Qg rfl (Qg rfl (Qg rfl (Qy)))))) (Jb _)
 replace H := Jt h22 H
 refine Ja rfl rfl rfl rfl ?_
 refine Qa (ps_pickT rfl rfl rfl) ?_
 refine Qo (Qe ?_)
 refine GoC.condT rfl ?_
 refine Qc ?_
 have hb := Jd H; clear H
 obtain ⟨q28, e27, H⟩ := hb
 refine GoO.callT false rfl (Qm _) (Qm _) (desk_must_spec 12 e27) (Qq (Qp _ _) (Qz)) rfl ⟨IndepP.ok (fun o => desk_must_I o), IndepP.ex (fun o => desk_must_J o)⟩ (fun rr HH hp => ?_) (fun rr HH hp => ?_)
 obtain ⟨x29, rfl, rfl, rfl⟩ := hp
 replace H := on_ex H
 obtain rfl := Qf H
 obtain rfl := Qf HK20
 obtain rfl := Qf hF15
 obtain rfl := Qf HK14
 exact GoT.ends (Qm _) ⟨_, rfl, rfl, rfl⟩
 obtain ⟨_, rfl, rfl, rfl⟩ := hp
 replace H := on_ok H
 refine Qo ?_
 obtain rfl := Qf H
 exact Jr ⟨rfl, rfl, rfl⟩ (Qg rfl (Qg rfl (Qg rfl (Qg rfl (Qg rfl (Qy)))))) (Jb _)
 rintro v h ⟨rfl, rfl, rfl⟩
 have H := HK20; clear HK20
 refine Qc ?_
 refine Qa (Ql rfl rfl) ?_
 have c30 := ck_l H; replace H := ck_r H
 refine Qa (ps_mul rfl rfl rfl c30) ?_
 refine Qa (Ql rfl rfl) ?_
 refine Qa (ps_subw rfl rfl rfl) ?_
 refine Qa (ps_convK rfl rfl) ?_
 have c31 := ck_l H; replace H := ck_r H
 refine Qa (ps_add rfl rfl rfl c31) ?_
 refine Qa (Qi rfl rfl) ?_
 refine Qo (GoK.blk (Qe (Qc ?_)))
 refine Qa (ps_add rfl rfl rfl hIk18) ?_
 refine Qa (Ql rfl rfl) ?_
 refine Qo ?_
 obtain rfl := Qf H
 exact GoK.againJ m19' (by omega) ⟨_, _, ⟨by omega, hF15⟩, rfl, rfl⟩ (Qg rfl (Qg rfl (Qg rfl (Qg rfl (Qy))))) (Jb _)
 obtain rfl : m19 = 0 := by omega
 refine GoC.exit rfl ?_
 cases hF15
 exact Jr ⟨_, rfl, rfl, rfl⟩ (Qg rfl (Qy)) (Jb _)
 rintro v h ⟨x17, rfl, rfl, rfl⟩
 have H := HK14; clear HK14
 refine Qe (Qj (Qc ?_))
 refine Qa (Ql rfl rfl) ?_
 refine Qa (Qi rfl rfl) ?_
 refine Qo (Qe ?_)
 obtain rfl := Qf H
 exact GoC.retLT (ds := [.v (.int .i64 x17)]) Tryd.results40 (Qt (Qv rfl) (Je)) (Qm _) ⟨_, rfl, rfl, rfl⟩
def desk_numbers_B1 (l : (List ByteArray)) : Nat → (List Int) → Option (Ct ((List Int)) (Thr ((List Int)) (Int))) := fun k15 l10 =>
 (desk_number_F (l.getD k15 El.d)).bind fun q => q.on (fun x20 =>
  some (.ret (.ex x20))) fun r17 =>
 ck (l10.length + 1 ≤ 17592186044416) <|
 some (.go (l10 ++ ([r17] : List Int)))
def desk_numbers_F (l : (List ByteArray)) (many : Int) : Option (Thr ((List Int)) (Int)) :=
 ((
  if ((l.length : Nat) : Int) ≠ many then
   (desk_must_F 12).bind fun q => q.on (fun x7 =>
    some (.ret (.ex x7))) fun () =>
   some (.go ())
  else
   some (.go ())) : Option (Ex (Unit) (Thr ((List Int)) (Int)))).bind fun q => match q with
 | .go () =>
  (forC (desk_numbers_B1 l) l.length 0 []).bind fun q => match q with
  | .go l14 =>
   some (.ok l14)
  | .ret x => some x
 | .ret x => some x
def desk_numbers_P (out : (List Int)) (d : D) (H : List HL) : Prop := ∃ β1 : BK, d = .own β1 1 0 out.length ∧ H = [.one β1 3 1 (row out)]
def desk_numbers_T (out : Int) (d : D) (H : List HL) : Prop := d = .v (.iface 51 (.agg #[.int .i64 out])) ∧ H = []
set_option maxRecDepth 100000 in
set_option maxHeartbeats 4000000 in
theorem desk_numbers_spec (l : (List ByteArray)) (many : Int) {out : Thr ((List Int)) (Int)} (H : desk_numbers_F l many = some out) : DoesT Tryd.prog 25 [slD l, .v (.int .i64 many)] [] (fun d H => ∃ o, out = .ok o ∧ desk_numbers_P o d H) (fun d H => ∃ o, out = .ex o ∧ desk_numbers_T o d H) := by
 unfold desk_numbers_F at H
 refine DoesT.intro Tryd.func25 rfl Tryd.ntmps25 rfl fun w0 I0 tb0 => ?_
 refine Qj (Qc ?_)
 refine Qa (Qi rfl rfl) ?_
 refine Qo (Qe ?_)
 have hb := Jd H; clear H
 obtain ⟨q2, H, HK1⟩ := hb
 refine GoC.seqJ [(0, slD l)] [] (fun v h => q2 = .go () ∧ v = [] ∧ h = []) ?_ ?_
 refine Qj (Qc ?_)
 refine Qa (Ql rfl rfl) ?_
 refine Qa (ps_len rfl (by constructor) rfl) ?_
 refine GoO.lenLe (n := l.length) (x := .tmp 8) rfl (by constructor) sl_lenLe (fun ml3 => ?_)
 refine Qa (Ql rfl rfl) ?_
 refine Qa (ps_neq rfl rfl rfl) ?_
 refine Qo (Qe ?_)
 refine Jc rfl (fun h4 => ?_) (fun h4 => ?_)
 replace H := Jt h4 H
 refine Qc ?_
 have hb := Jd H; clear H
 obtain ⟨q6, e5, H⟩ := hb
 refine GoO.callT false rfl (Qm _) (Qm _) (desk_must_spec 12 e5) (Qq (Qp _ _) (Qz)) rfl ⟨IndepP.ok (fun o => desk_must_I o), IndepP.ex (fun o => desk_must_J o)⟩ (fun rr HH hp => ?_) (fun rr HH hp => ?_)
 obtain ⟨x7, rfl, rfl, rfl⟩ := hp
 replace H := on_ex H
 obtain rfl := Qf H
 obtain rfl := Qf HK1
 exact GoT.ends (Qm _) ⟨_, rfl, rfl, rfl⟩
 obtain ⟨_, rfl, rfl, rfl⟩ := hp
 replace H := on_ok H
 refine Qo ?_
 obtain rfl := Qf H
 exact Jr ⟨rfl, rfl, rfl⟩ (Qg rfl (Qy)) (Jb _)
 replace H := Ju h4 H
 refine Jg ?_
 obtain rfl := Qf H
 exact Jr ⟨rfl, rfl, rfl⟩ (Qg rfl (Qy)) (Jb _)
 rintro v h ⟨rfl, rfl, rfl⟩
 have H := HK1; clear HK1
 refine Qj (Qc ?_)
 refine Qa (Qi rfl rfl) ?_
 refine Qo (Qe (Qj (Qj (Qc ?_))))
 refine Qa (Ql rfl rfl) ?_
 refine Qa (ps_len rfl (by constructor) rfl) ?_
 refine GoO.lenLe (n := l.length) (x := .tmp 13) rfl (by constructor) sl_lenLe (fun ml8 => ?_)
 refine Qa (Ql rfl rfl) ?_
 refine Qo (Qe ?_)
 have hb := Jd H; clear H
 obtain ⟨q13, hl24, HK11⟩ := hb
 refine GoC.blockJ [] [] (fun v h => ∃ (l14 : (List Int)) (β9 : BK), q13 = .go l14 ∧ v = [(5, .own β9 1 0 l14.length)] ∧ h = [.one β9 3 1 (row l14)]) ?_ ?_
 refine GoC.loopJ [(13, _), (14, _)] [] (fun mQ v h => ∃ (k15 : Nat) (l10 : (List Int)) (β9 : BK), (k15 + mQ = l.length ∧ forC (desk_numbers_B1 l) mQ k15 l10 = some q13) ∧ v = [(15, .v (.int .i64 ((k15 : Nat) : Int))), (5, .own β9 1 0 l10.length)] ∧ h = [.one β9 3 1 (row l10)]) l.length ⟨_, _, ⟨0, 0, 0⟩, ⟨by omega, hl24⟩, rfl, rfl⟩ (Qg rfl (Jm rfl (DLe.nilOwn) (Qg rfl (Qg rfl (Qy))))) (TkD.no _ _ _ _ _ rfl (Jb _)) ?_
 rintro m16 v h ⟨k15, l10, β9, ⟨hkk15, hF12⟩, rfl, rfl⟩
 refine Qj (Qc ?_)
 refine Qa (ps_lss rfl rfl rfl) ?_
 refine Qo (Qe (Qj ?_))
 refine Jc rfl (fun (hk15 : (k15 : Int) < ((l.length : Nat) : Int)) => ?_) (fun (hk15 : ¬ (k15 : Int) < ((l.length : Nat) : Int)) => ?_)
 obtain ⟨m16', rfl⟩ : ∃ x, m16 = x + 1 := ⟨m16 - 1, by omega⟩
 have hb := Jd hF12; clear hF12
 obtain ⟨qrm16, H, hF12⟩ := hb
 have hnk15 : k15 < l.length := by omega
 have hIk15 : InI ((k15 : Int) + 1) := inI_len hk15 ml8
 refine Jg (Qe (Qj (GoC.block (Qj (Qc ?_)))))
 refine Qa (ps_indexAddrRN rfl rfl hnk15 rfl) ?_
 refine Qa (ps_loadR rfl hnk15 rfl rfl) ?_
 refine Qa (Qi rfl rfl) ?_
 refine Qo (Qe (Qc ?_))
 refine Qa (Ql rfl rfl) ?_
 refine Qa (Ql rfl rfl) ?_
 have hb := Jd H; clear H
 obtain ⟨q19, e18, H⟩ := hb
 refine GoO.callT false rfl (Qm _) (Qm _) (desk_number_spec (l.getD k15 El.d) e18) (Qq (Qp _ _) (Qz)) rfl ⟨IndepP.ok (fun o => desk_number_I o), IndepP.ex (fun o => desk_number_J o)⟩ (fun rr HH hp => ?_) (fun rr HH hp => ?_)
 obtain ⟨x20, rfl, rfl, rfl⟩ := hp
 replace H := on_ex H
 obtain rfl := Qf H
 obtain rfl := Qf hF12
 obtain rfl := Qf HK11
 exact GoT.ends (Qm _) ⟨_, rfl, rfl, rfl⟩
 obtain ⟨r17, rfl, rfl, rfl⟩ := hp
 replace H := on_ok H
 refine Jq (ef_buildSlice (row ([r17] : List Int)) rfl (Jn _ _ _ _ _ _ _ _ ⟨rfl, rfl⟩ (Part.one _ rfl rfl) rfl rfl (Parts.nil _)) rfl rfl rfl rfl) (fun β21 => ?_)
 have c23 := ck_l H; replace H := ck_r H
 refine Jq (ef_append rfl rfl Jk (Src.own Qw (by first | omega | (simp only [szl]; omega) | (simp only [szl]; done))) (cat_row (α := Int) (by first | rfl | omega | (simp only [szl] <;> first | rfl | omega)) (by first | rfl | omega | (simp only [szl] <;> first | rfl | omega)) (fun _ _ _ _ => rfl)) (by first | omega | (simp only [szl]; omega) | (simp only [szl]; done)) (app_le c23 rfl) rfl rfl rfl) (fun β22 => ?_)
 refine Qa (Qi rfl rfl) ?_
 refine Qo (GoK.blk (Qe (Qc ?_)))
 refine Qa (ps_add rfl rfl rfl hIk15) ?_
 refine Qa (Ql rfl rfl) ?_
 refine Qo ?_
 obtain rfl := Qf H
 exact GoK.againJ m16' (by omega) ⟨_, _, β22, ⟨by omega, hF12⟩, rfl, rfl⟩ (Qg rfl (Jm rfl (Jp (by first | rfl | omega | (simp only [row_len, gridC_len, rowO_len, List.length_append, List.length_cons, List.length_nil] <;> first | rfl | omega))) (Qg rfl (Qg rfl (Qy))))) (Qn _ _ _ _ _ Qk (Qr _) (Jb _))
 obtain rfl : m16 = 0 := by omega
 refine GoC.exit rfl ?_
 cases hF12
 exact Jr ⟨_, β9, rfl, rfl, rfl⟩ (Jm rfl (Jp (by first | rfl | omega | (simp only [row_len, gridC_len, rowO_len] <;> first | rfl | omega))) (Qy)) (Qn _ _ _ _ _ Qk (Qr _) (Jb _))
 rintro v h ⟨l14, β9, rfl, rfl, rfl⟩
 have H := HK11; clear HK11
 refine Qe (Qj (Qc ?_))
 refine Qa (Ql rfl rfl) ?_
 refine Qa (Qi rfl rfl) ?_
 refine Qo (Qe ?_)
 obtain rfl := Qf H
 exact GoC.retLT (ds := [.own β9 1 0 l14.length]) Tryd.results25 (Qt (Qv rfl) (Je)) (Qd _ _ _ _ _ Qk (Qm _)) ⟨_, rfl, β9, rfl, rfl⟩
def desk_numbers_PF (out : (List Int)) (d : D) (H : List HL) : Prop := d = slD out ∧ H = []
theorem desk_numbers_specF (l : (List ByteArray)) (many : Int) {out : Thr ((List Int)) (Int)} (H : desk_numbers_F l many = some out) : DoesT Tryd.prog 25 [slD l, .v (.int .i64 many)] [] (fun d H => ∃ o, out = .ok o ∧ desk_numbers_PF o d H) (fun d H => ∃ o, out = .ex o ∧ desk_numbers_T o d H) :=
 DoesT.freeze (desk_numbers_spec l many H) fun d H hp => by
  obtain ⟨o, rfl, β1, rfl, rfl⟩ := hp
  exact ⟨_, ⟨_, rfl, rfl, rfl⟩, Lend.all' Qw rfl rfl⟩
def desk_do_F (d_ : Store) (x : Deed) (tells : Bool) : Option (Thr (ByteArray × Store) (Int × Store)) :=
 (store_Do_F d_ x).bind fun (r2, r3, x4) =>
 (desk_must_F r3).bind fun q => q.on (fun x11 =>
  some (.ex (x11, x4))) fun () =>
 if tells = true then
  (strconv_Itoa_F r2).bind fun r13 =>
  some (.ok (r13, x4))
 else
  some (.ok ((⟨#[111, 107]⟩ : ByteArray), x4))
def desk_do_P (out : ByteArray × Store) (βd_ : BK) (βd__1 : BK) (βd__2 : BK) (βd__3 : BK) (d : D) (H : List HL) : Prop := ∃ βx1 βx2 βx3 : BK, d = .v (.string out.1) ∧ H = [.one βd_ 48 8 (st1 (nth [.v (.int .i64 out.2.now.net.n), .v (.int .i64 out.2.now.net.s), .v (.int .i64 out.2.now.net.t), slD out.2.now.net.as, slD out.2.now.flow, .own βx1 5 0 out.2.old.length, .own βx2 1 0 out.2.names.length, .own βx3 5 0 out.2.saved.length])), .one βx1 45 5 (row out.2.old), .one βx2 9 1 (row out.2.names), .one βx3 45 5 (row out.2.saved)]
def desk_do_T (out : Int × Store) (βd_ : BK) (βd__1 : BK) (βd__2 : BK) (βd__3 : BK) (d : D) (H : List HL) : Prop := ∃ βx1 βx2 βx3 : BK, d = .v (.iface 51 (.agg #[.int .i64 out.1])) ∧ H = [.one βd_ 48 8 (st1 (nth [.v (.int .i64 out.2.now.net.n), .v (.int .i64 out.2.now.net.s), .v (.int .i64 out.2.now.net.t), slD out.2.now.net.as, slD out.2.now.flow, .own βx1 5 0 out.2.old.length, .own βx2 1 0 out.2.names.length, .own βx3 5 0 out.2.saved.length])), .one βx1 45 5 (row out.2.old), .one βx2 9 1 (row out.2.names), .one βx3 45 5 (row out.2.saved)]
set_option maxRecDepth 100000 in
set_option maxHeartbeats 4000000 in
theorem desk_do_spec (d_ : Store) (x : Deed) (tells : Bool) (βd_ : BK) (βd__1 : BK) (βd__2 : BK) (βd__3 : BK) {out : Thr (ByteArray × Store) (Int × Store)} (H : desk_do_F d_ x tells = some out) : DoesT Tryd.prog 26 [.rp 1 1 (st1 (nth [.ptr βd_ 8 0 0])).get 0 0, .ag 5 (nth [.v (.int .i64 x.kind), .v (.int .i64 x.a), .v (.int .i64 x.b), .v (.int .i64 x.n), .v (.string x.name)]), .v (.bool tells)] [.one βd_ 48 8 (st1 (nth [.v (.int .i64 d_.now.net.n), .v (.int .i64 d_.now.net.s), .v (.int .i64 d_.now.net.t), slD d_.now.net.as, slD d_.now.flow, .own βd__1 5 0 d_.old.length, .own βd__2 1 0 d_.names.length, .own βd__3 5 0 d_.saved.length])), .one βd__1 45 5 (row d_.old), .one βd__2 9 1 (row d_.names), .one βd__3 45 5 (row d_.saved)] (fun d H => ∃ o, out = .ok o ∧ desk_do_P o βd_ βd__1 βd__2 βd__3 d H) (fun d H => ∃ o, out = .ex o ∧ desk_do_T o βd_ βd__1 βd__2 βd__3 d H) := by
 unfold desk_do_F at H
 refine DoesT.intro Tryd.func26 rfl Tryd.ntmps26 rfl fun w0 I0 tb0 => ?_
 refine Qj (Qc ?_)
 refine Jq (ef_boxAg rfl rfl) (fun β1 => ?_)
 refine Qa (Qi rfl rfl) ?_
 refine Qo (Qe (Qj ?_))
 refine GoC.drawQ (.q 0 (.q 1 (.q 2 (.q 3 (.q 4 (.one 5 (.q 6 (.q 7 (.q 8 (.q 9 (.q 10 (.done)))))))))))) 5 follows (by kernel_rfl) ?_
 refine Jo rfl rfl (Ql rfl rfl) ?_
 refine Jo rfl rfl (ps_nilCheckR rfl rfl) ?_
 refine Jo rfl rfl (ps_fieldAddrR rfl rfl) ?_
 refine GoQ.qN rfl (by kernel_rfl) (ps_loadR rfl Qh rfl rfl) ?_
 refine GoQ.qN rfl (by kernel_rfl) (ps_loadAg rfl Qw Qw Qh rfl rfl) ?_
 have hb := Jd H; clear H
 obtain ⟨⟨r2, r3, x4⟩, e5, H⟩ := hb
 refine GoQ.lastCG rfl Qs (ef_callK rfl (Qd _ _ _ _ _ Jk (Qd _ _ _ _ _ Jk (Qd _ _ _ _ _ Jk (Qd _ _ _ _ _ Jk (Qm _))))) (Qm _) (store_Do_spec d_ x βd_ βd__1 βd__2 βd__3 e5) (Qq (Qp _ _) (Qq (Lend.agA ⟨⟨⟨⟨⟨Qs, Qp _ _⟩, Qp _ _⟩, Qp _ _⟩, Qp _ _⟩, Qp _ _⟩) (Qz))) rfl nil_fps) (Qd _ _ _ _ _ Jk (Qd _ _ _ _ _ Jk (Qd _ _ _ _ _ Jk (Qd _ _ _ _ _ Jk (Qm _))))) (fun rr HH hp => ?_)
 obtain ⟨β6, β7, β8, rfl, rfl⟩ := hp
 refine Qx rfl (Ql rfl rfl) ?_
 refine Qx rfl (Ji rfl rfl rfl) ?_
 refine Qx rfl (Ji rfl rfl rfl) ?_
 refine Qx rfl (Qi rfl rfl) ?_
 refine Qx rfl (Qi rfl rfl) ?_
 refine GoP.done ?_
 refine Qe (Qj (Qc ?_))
 refine Qa (Ql rfl rfl) ?_
 have hb := Jd H; clear H
 obtain ⟨q10, e9, H⟩ := hb
 refine GoO.callT false rfl (Qm _) (Qm _) (desk_must_spec r3 e9) (Qq (Qp _ _) (Qz)) rfl ⟨IndepP.ok (fun o => desk_must_I o), IndepP.ex (fun o => desk_must_J o)⟩ (fun rr HH hp => ?_) (fun rr HH hp => ?_)
 obtain ⟨x11, rfl, rfl, rfl⟩ := hp
 replace H := on_ex H
 obtain rfl := Qf H
 exact GoT.ends (Qd _ _ _ _ _ Qk (Qd _ _ _ _ _ Qk (Qd _ _ _ _ _ Qk (Qd _ _ _ _ _ Qk (Qm _))))) ⟨_, rfl, β6, β7, β8, rfl, rfl⟩
 obtain ⟨_, rfl, rfl, rfl⟩ := hp
 replace H := on_ok H
 refine Qo (Qe (Qj (Qj (Qc ?_))))
 refine Qa (Ql rfl rfl) ?_
 refine Qo (Qe ?_)
 refine GoC.cond rfl (fun h12 => ?_) (fun h12 => ?_)
 replace H := itb_t h12 H
 refine Qj (Qc ?_)
 refine Qa (Ql rfl rfl) ?_
 have hb := Jd H; clear H
 obtain ⟨r13, e14, H⟩ := hb
 refine GoO.effC (ef_call rfl (Qm _) (Qm _) (strconv_Itoa_spec r2 e14) (Qq (Qp _ _) (Qz)) rfl (strconv_Itoa_I (r13))) (fun rr HH hp => ?_)
 obtain ⟨rfl, rfl⟩ := hp
 refine Qa (Qi rfl rfl) ?_
 refine Qo (Qe ?_)
 obtain rfl := Qf H
 exact GoC.retLT (ds := [.v (.string r13)]) Tryd.results26 (Qt (Qv rfl) (Je)) (Qd _ _ _ _ _ Qk (Qd _ _ _ _ _ Qk (Qd _ _ _ _ _ Qk (Qd _ _ _ _ _ Qk (Qm _))))) ⟨_, rfl, β6, β7, β8, rfl, rfl⟩
 replace H := itb_f h12 H
 refine Jg (Qe (Qj (Qc ?_)))
 refine Qa (Qi rfl rfl) ?_
 refine Qo (Qe ?_)
 obtain rfl := Qf H
 exact GoC.retLT (ds := [.v (.string (⟨#[111, 107]⟩ : ByteArray))]) Tryd.results26 (Qt (Qv rfl) (Je)) (Qd _ _ _ _ _ Qk (Qd _ _ _ _ _ Qk (Qd _ _ _ _ _ Qk (Qd _ _ _ _ _ Qk (Qm _))))) ⟨_, rfl, β6, β7, β8, rfl, rfl⟩
def desk_deed_F (d_ : Store) (word : ByteArray) (l : (List ByteArray)) : Option (Thr (ByteArray × Bool × Store) (Int × Store)) :=
 if word = (⟨#[110, 101, 119]⟩ : ByteArray) then
  (desk_numbers_F l 3).bind fun q => q.on (fun x5 =>
   some (.ex (x5, d_))) fun r2 =>
  ck (0 < r2.length) <|
  ck (1 < r2.length) <|
  ck (2 < r2.length) <|
  (desk_do_F d_ (⟨1, (r2.getD 1 (0 : Int)), (r2.getD 2 (0 : Int)), (r2.getD 0 (0 : Int)), ByteArray.empty⟩ : Deed) false).bind fun q => q.on (fun (x13, x14) =>
   some (.ex (x13, x14))) fun (r9, x10) =>
  some (.ok (r9, true, x10))
 else
  if word = (⟨#[97, 114, 99]⟩ : ByteArray) then
   (desk_numbers_F l 3).bind fun q => q.on (fun x25 =>
    some (.ex (x25, d_))) fun r22 =>
   ck (0 < r22.length) <|
   ck (1 < r22.length) <|
   ck (2 < r22.length) <|
   (desk_do_F d_ (⟨2, (r22.getD 0 (0 : Int)), (r22.getD 1 (0 : Int)), (r22.getD 2 (0 : Int)), ByteArray.empty⟩ : Deed) false).bind fun q => q.on (fun (x33, x34) =>
    some (.ex (x33, x34))) fun (r29, x30) =>
   some (.ok (r29, true, x30))
  else
   if word = (⟨#[99, 97, 112]⟩ : ByteArray) then
    (desk_numbers_F l 2).bind fun q => q.on (fun x45 =>
     some (.ex (x45, d_))) fun r42 =>
    ck (0 < r42.length) <|
    ck (1 < r42.length) <|
    (desk_do_F d_ (⟨3, (r42.getD 0 (0 : Int)), 0, (r42.getD 1 (0 : Int)), ByteArray.empty⟩ : Deed) false).bind fun q => q.on (fun (x52, x53) =>
     some (.ex (x52, x53))) fun (r48, x49) =>
    some (.ok (r48, true, x49))
   else
    if word = (⟨#[100, 114, 111, 112]⟩ : ByteArray) then
     (desk_numbers_F l 1).bind fun q => q.on (fun x64 =>
      some (.ex (x64, d_))) fun r61 =>
     ck (0 < r61.length) <|
     (desk_do_F d_ (⟨4, (r61.getD 0 (0 : Int)), 0, 0, ByteArray.empty⟩ : Deed) false).bind fun q => q.on (fun (x70, x71) =>
      some (.ex (x70, x71))) fun (r66, x67) =>
     some (.ok (r66, true, x67))
    else
     if word = (⟨#[101, 110, 100, 115]⟩ : ByteArray) then
      (desk_numbers_F l 2).bind fun q => q.on (fun x82 =>
       some (.ex (x82, d_))) fun r79 =>
      ck (0 < r79.length) <|
      ck (1 < r79.length) <|
      (desk_do_F d_ (⟨5, (r79.getD 0 (0 : Int)), (r79.getD 1 (0 : Int)), 0, ByteArray.empty⟩ : Deed) false).bind fun q => q.on (fun (x89, x90) =>
       some (.ex (x89, x90))) fun (r85, x86) =>
      some (.ok (r85, true, x86))
     else
      ((
       if word = (⟨#[115, 97, 118, 101]⟩ : ByteArray) then
        some (decide (word = (⟨#[115, 97, 118, 101]⟩ : ByteArray)))
       else
        some (decide (word = (⟨#[108, 111, 97, 100]⟩ : ByteArray)))) : Option (Bool)).bind fun b97 =>
      if b97 = true then
       ((
        if ((l.length : Nat) : Int) ≠ 1 then
         (desk_must_F 12).bind fun q => q.on (fun x108 =>
          some (.ret (.ex (x108, d_)))) fun () =>
         some (.go ())
        else
         some (.go ())) : Option (Ex (Unit) (Thr (ByteArray × Bool × Store) (Int × Store)))).bind fun q => match q with
       | .go () =>
        ((
         if word = (⟨#[108, 111, 97, 100]⟩ : ByteArray) then
          some 8
         else
          some 7) : Option (Int)).bind fun x109 =>
        ck (0 < l.length) <|
        (desk_do_F d_ (⟨x109, 0, 0, 0, (l.getD 0 El.d)⟩ : Deed) false).bind fun q => q.on (fun (x118, x119) =>
         some (.ex (x118, x119))) fun (r114, x115) =>
        some (.ok (r114, true, x115))
       | .ret x => some x
      else
       some (.ok ((⟨#[]⟩ : ByteArray), false, d_))
def desk_deed_P (out : ByteArray × Bool × Store) (βd_ : BK) (βd__1 : BK) (βd__2 : BK) (βd__3 : BK) (d : D) (H : List HL) : Prop := ∃ βx1 βx2 βx3 : BK, d = .tp 2 (nth [.v (.string out.1), .v (.bool out.2.1)]) ∧ H = [.one βd_ 48 8 (st1 (nth [.v (.int .i64 out.2.2.now.net.n), .v (.int .i64 out.2.2.now.net.s), .v (.int .i64 out.2.2.now.net.t), slD out.2.2.now.net.as, slD out.2.2.now.flow, .own βx1 5 0 out.2.2.old.length, .own βx2 1 0 out.2.2.names.length, .own βx3 5 0 out.2.2.saved.length])), .one βx1 45 5 (row out.2.2.old), .one βx2 9 1 (row out.2.2.names), .one βx3 45 5 (row out.2.2.saved)]
def desk_deed_T (out : Int × Store) (βd_ : BK) (βd__1 : BK) (βd__2 : BK) (βd__3 : BK) (d : D) (H : List HL) : Prop := ∃ βx1 βx2 βx3 : BK, d = .v (.iface 51 (.agg #[.int .i64 out.1])) ∧ H = [.one βd_ 48 8 (st1 (nth [.v (.int .i64 out.2.now.net.n), .v (.int .i64 out.2.now.net.s), .v (.int .i64 out.2.now.net.t), slD out.2.now.net.as, slD out.2.now.flow, .own βx1 5 0 out.2.old.length, .own βx2 1 0 out.2.names.length, .own βx3 5 0 out.2.saved.length])), .one βx1 45 5 (row out.2.old), .one βx2 9 1 (row out.2.names), .one βx3 45 5 (row out.2.saved)]
set_option maxRecDepth 100000 in
set_option maxHeartbeats 4000000 in
theorem desk_deed_spec (d_ : Store) (word : ByteArray) (l : (List ByteArray)) (βd_ : BK) (βd__1 : BK) (βd__2 : BK) (βd__3 : BK) {out : Thr (ByteArray × Bool × Store) (Int × Store)} (H : desk_deed_F d_ word l = some out) : DoesT Tryd.prog 19 [.rp 1 1 (st1 (nth [.ptr βd_ 8 0 0])).get 0 0, .v (.string word), slD l] [.one βd_ 48 8 (st1 (nth [.v (.int .i64 d_.now.net.n), .v (.int .i64 d_.now.net.s), .v (.int .i64 d_.now.net.t), slD d_.now.net.as, slD d_.now.flow, .own βd__1 5 0 d_.old.length, .own βd__2 1 0 d_.names.length, .own βd__3 5 0 d_.saved.length])), .one βd__1 45 5 (row d_.old), .one βd__2 9 1 (row d_.names), .one βd__3 45 5 (row d_.saved)] (fun d H => ∃ o, out = .ok o ∧ desk_deed_P o βd_ βd__1 βd__2 βd__3 d H) (fun d H => ∃ o, out = .ex o ∧ desk_deed_T o βd_ βd__1 βd__2 βd__3 d H) := by
 unfold desk_deed_F at H
 refine DoesT.intro Tryd.func19 rfl Tryd.ntmps19 rfl fun w0 I0 tb0 => ?_
 refine Qj (Qc ?_)
 refine Qa (Qi rfl rfl) ?_
 refine Qa (Qi rfl rfl) ?_
 refine Qo (Qe (Qj (Qj (Qc ?_))))
 refine Qa (Ql rfl rfl) ?_
 refine Qo (Qe (GoC.block (Qj (Qc ?_))))
 refine Qa (ps_eqlStr rfl rfl rfl) ?_
 refine Qa (Qi rfl rfl) ?_
 refine Qo (Qe ?_)
 refine Jc rfl (fun h1 => ?_) (fun h1 => ?_)
 replace H := Jt h1 H
 refine Qj (Qc ?_)
 refine Qa (Ql rfl rfl) ?_
 have hb := Jd H; clear H
 obtain ⟨q4, e3, H⟩ := hb
 refine GoO.callT true rfl (Qm _) (Qm _) (desk_numbers_specF l 3 e3) (Qq (Qp _ _) (Qq (Qp _ _) (Qz))) rfl nil_fps (fun rr HH hp => ?_) (fun rr HH hp => ?_)
 obtain ⟨x5, rfl, rfl, rfl⟩ := hp
 replace H := on_ex H
 obtain rfl := Qf H
 exact GoT.ends (Qd _ _ _ _ _ Qk (Qd _ _ _ _ _ Qk (Qd _ _ _ _ _ Qk (Qd _ _ _ _ _ Qk (Qm _))))) ⟨_, rfl, βd__1, βd__2, βd__3, rfl, rfl⟩
 obtain ⟨r2, rfl, rfl, rfl⟩ := hp
 replace H := on_ok H
 refine Qa (Qi rfl rfl) ?_
 refine Qo (Qe (Qj ?_))
 refine GoC.drawQ (.q 0 (.q 1 (.q 2 (.q 3 (.q 4 (.q 5 (.q 6 (.q 7 (.q 8 (.q 9 (.q 10 (.one 11 (.q 12 (.q 13 (.done))))))))))))))) 11 follows (by kernel_rfl) ?_
 refine Jo rfl rfl (Ql rfl rfl) ?_
 refine Jo rfl rfl (Ql rfl rfl) ?_
 have c6 := ck_l H; replace H := ck_r H
 refine Jo rfl rfl (ps_indexAddrRN (i := 0) rfl rfl c6 rfl) ?_
 refine Jo rfl rfl (ps_loadR rfl c6 rfl rfl) ?_
 refine Jo rfl rfl (Ql rfl rfl) ?_
 have c7 := ck_l H; replace H := ck_r H
 refine Jo rfl rfl (ps_indexAddrRN (i := 1) rfl rfl c7 rfl) ?_
 refine Jo rfl rfl (ps_loadR rfl c7 rfl rfl) ?_
 refine Jo rfl rfl (Ql rfl rfl) ?_
 have c8 := ck_l H; replace H := ck_r H
 refine Jo rfl rfl (ps_indexAddrRN (i := 2) rfl rfl c8 rfl) ?_
 refine Jo rfl rfl (ps_loadR rfl c8 rfl rfl) ?_
 refine Jo rfl rfl (ps_build (Jn _ _ _ _ _ _ _ _ FdP.of (Part.one _ rfl rfl) rfl rfl (Jn _ _ _ _ _ _ _ _ FdP.of (Part.one _ rfl rfl) rfl rfl (Jn _ _ _ _ _ _ _ _ FdP.of (Part.one _ rfl rfl) rfl rfl (Jn _ _ _ _ _ _ _ _ FdP.of (Part.one _ rfl rfl) rfl rfl (Parts.nil _))))) rfl) ?_
 have hb := Jd H; clear H
 obtain ⟨q12, e11, H⟩ := hb
 refine GoQ.lastT rfl Qs (ef_callT true rfl (Qd _ _ _ _ _ Qk (Qd _ _ _ _ _ Qk (Qd _ _ _ _ _ Qk (Qd _ _ _ _ _ Qk (Qm _))))) (Qm _) (desk_do_spec d_ (⟨1, (r2.getD 1 (0 : Int)), (r2.getD 2 (0 : Int)), (r2.getD 0 (0 : Int)), ByteArray.empty⟩ : Deed) false βd_ βd__1 βd__2 βd__3 e11) (Qq (Qp _ _) (Qq (Lend.agA ⟨⟨⟨⟨⟨Qs, Qp _ _⟩, Qp _ _⟩, Qp _ _⟩, Qp _ _⟩, Qp _ _⟩) (Qq (Qp _ _) (Qz)))) rfl nil_fps (fun rr HH hp => ?_)) (Qd _ _ _ _ _ Qk (Qd _ _ _ _ _ Qk (Qd _ _ _ _ _ Qk (Qd _ _ _ _ _ Qk (Qm _))))) (fun rr HH hp => ?_)
 obtain ⟨⟨x13, x14⟩, rfl, β15, β16, β17, rfl, rfl⟩ := hp
 replace H := on_ex H
 obtain rfl := Qf H
 exact GoT.ends (Qd _ _ _ _ _ Qk (Qd _ _ _ _ _ Qk (Qd _ _ _ _ _ Qk (Qd _ _ _ _ _ Qk (Qm _))))) ⟨_, rfl, β15, β16, β17, rfl, rfl⟩
 obtain ⟨⟨r9, x10⟩, rfl, β18, β19, β20, rfl, rfl⟩ := hp
 replace H := on_ok H
 refine Qx rfl (Qi rfl rfl) ?_
 refine Qx rfl (Qi rfl rfl) ?_
 refine GoP.done ?_
 refine Qe ?_
 obtain rfl := Qf H
 exact GoC.retLT (ds := [.v (.string r9), .v (.bool true)]) Tryd.results19 (Qt (Qv rfl) (Qt (Qv rfl) (Je))) (Qd _ _ _ _ _ Qk (Qd _ _ _ _ _ Qk (Qd _ _ _ _ _ Qk (Qd _ _ _ _ _ Qk (Qm _))))) ⟨_, rfl, β18, β19, β20, rfl, rfl⟩
 replace H := Ju h1 H
 refine Qj (Qc ?_)
 refine Qa (ps_eqlStr rfl rfl rfl) ?_
 refine Qa (Qi rfl rfl) ?_
 refine Qo (Qe ?_)
 refine Jc rfl (fun h21 => ?_) (fun h21 => ?_)
 replace H := Jt h21 H
 refine Qj (Qc ?_)
 refine Qa (Ql rfl rfl) ?_
 have hb := Jd H; clear H
 obtain ⟨q24, e23, H⟩ := hb
 refine GoO.callT true rfl (Qm _) (Qm _) (desk_numbers_specF l 3 e23) (Qq (Qp _ _) (Qq (Qp _ _) (Qz))) rfl nil_fps (fun rr HH hp => ?_) (fun rr HH hp => ?_)
 obtain ⟨x25, rfl, rfl, rfl⟩ := hp
 replace H := on_ex H
 obtain rfl := Qf H
 exact GoT.ends (Qd _ _ _ _ _ Qk (Qd _ _ _ _ _ Qk (Qd _ _ _ _ _ Qk (Qd _ _ _ _ _ Qk (Qm _))))) ⟨_, rfl, βd__1, βd__2, βd__3, rfl, rfl⟩
 obtain ⟨r22, rfl, rfl, rfl⟩ := hp
 replace H := on_ok H
 refine Qa (Qi rfl rfl) ?_
 refine Qo (Qe (Qj ?_))
 refine GoC.drawQ (.q 0 (.q 1 (.q 2 (.q 3 (.q 4 (.q 5 (.q 6 (.q 7 (.q 8 (.q 9 (.q 10 (.one 11 (.q 12 (.q 13 (.done))))))))))))))) 11 follows (by kernel_rfl) ?_
 refine Jo rfl rfl (Ql rfl rfl) ?_
 refine Jo rfl rfl (Ql rfl rfl) ?_
 have c26 := ck_l H; replace H := ck_r H
 refine Jo rfl rfl (ps_indexAddrRN (i := 0) rfl rfl c26 rfl) ?_
 refine Jo rfl rfl (ps_loadR rfl c26 rfl rfl) ?_
 refine Jo rfl rfl (Ql rfl rfl) ?_
 have c27 := ck_l H; replace H := ck_r H
 refine Jo rfl rfl (ps_indexAddrRN (i := 1) rfl rfl c27 rfl) ?_
 refine Jo rfl rfl (ps_loadR rfl c27 rfl rfl) ?_
 refine Jo rfl rfl (Ql rfl rfl) ?_
 have c28 := ck_l H; replace H := ck_r H
 refine Jo rfl rfl (ps_indexAddrRN (i := 2) rfl rfl c28 rfl) ?_
 refine Jo rfl rfl (ps_loadR rfl c28 rfl rfl) ?_
 refine Jo rfl rfl (ps_build (Jn _ _ _ _ _ _ _ _ FdP.of (Part.one _ rfl rfl) rfl rfl (Jn _ _ _ _ _ _ _ _ FdP.of (Part.one _ rfl rfl) rfl rfl (Jn _ _ _ _ _ _ _ _ FdP.of (Part.one _ rfl rfl) rfl rfl (Jn _ _ _ _ _ _ _ _ FdP.of (Part.one _ rfl rfl) rfl rfl (Parts.nil _))))) rfl) ?_
 have hb := Jd H; clear H
 obtain ⟨q32, e31, H⟩ := hb
 refine GoQ.lastT rfl Qs (ef_callT true rfl (Qd _ _ _ _ _ Qk (Qd _ _ _ _ _ Qk (Qd _ _ _ _ _ Qk (Qd _ _ _ _ _ Qk (Qm _))))) (Qm _) (desk_do_spec d_ (⟨2, (r22.getD 0 (0 : Int)), (r22.getD 1 (0 : Int)), (r22.getD 2 (0 : Int)), ByteArray.empty⟩ : Deed) false βd_ βd__1 βd__2 βd__3 e31) (Qq (Qp _ _) (Qq (Lend.agA ⟨⟨⟨⟨⟨Qs, Qp _ _⟩, Qp _ _⟩, Qp _ _⟩, Qp _ _⟩, Qp _ _⟩) (Qq (Qp _ _) (Qz)))) rfl nil_fps (fun rr HH hp => ?_)) (Qd _ _ _ _ _ Qk (Qd _ _ _ _ _ Qk (Qd _ _ _ _ _ Qk (Qd _ _ _ _ _ Qk (Qm _))))) (fun rr HH hp => ?_)
 obtain ⟨⟨x33, x34⟩, rfl, β35, β36, β37, rfl, rfl⟩ := hp
 replace H := on_ex H
 obtain rfl := Qf H
 exact GoT.ends (Qd _ _ _ _ _ Qk (Qd _ _ _ _ _ Qk (Qd _ _ _ _ _ Qk (Qd _ _ _ _ _ Qk (Qm _))))) ⟨_, rfl, β35, β36, β37, rfl, rfl⟩
 obtain ⟨⟨r29, x30⟩, rfl, β38, β39, β40, rfl, rfl⟩ := hp
 replace H := on_ok H
 refine Qx rfl (Qi rfl rfl) ?_
 refine Qx rfl (Qi rfl rfl) ?_
 refine GoP.done ?_
 refine Qe ?_
 obtain rfl := Qf H
 exact GoC.retLT (ds := [.v (.string r29), .v (.bool true)]) Tryd.results19 (Qt (Qv rfl) (Qt (Qv rfl) (Je))) (Qd _ _ _ _ _ Qk (Qd _ _ _ _ _ Qk (Qd _ _ _ _ _ Qk (Qd _ _ _ _ _ Qk (Qm _))))) ⟨_, rfl, β38, β39, β40, rfl, rfl⟩
 replace H := Ju h21 H
 refine Qj (Qc ?_)
 refine Qa (ps_eqlStr rfl rfl rfl) ?_
 refine Qa (Qi rfl rfl) ?_
 refine Qo (Qe ?_)
 refine Jc rfl (fun h41 => ?_) (fun h41 => ?_)
 replace H := Jt h41 H
 refine Qj (Qc ?_)
 refine Qa (Ql rfl rfl) ?_
 have hb := Jd H; clear H
 obtain ⟨q44, e43, H⟩ := hb
 refine GoO.callT true rfl (Qm _) (Qm _) (desk_numbers_specF l 2 e43) (Qq (Qp _ _) (Qq (Qp _ _) (Qz))) rfl nil_fps (fun rr HH hp => ?_) (fun rr HH hp => ?_)
 obtain ⟨x45, rfl, rfl, rfl⟩ := hp
 replace H := on_ex H
 obtain rfl := Qf H
 exact GoT.ends (Qd _ _ _ _ _ Qk (Qd _ _ _ _ _ Qk (Qd _ _ _ _ _ Qk (Qd _ _ _ _ _ Qk (Qm _))))) ⟨_, rfl, βd__1, βd__2, βd__3, rfl, rfl⟩
 obtain ⟨r42, rfl, rfl, rfl⟩ := hp
 replace H := on_ok H
 refine Qa (Qi rfl rfl) ?_
 refine Qo (Qe (Qj ?_))
 refine GoC.drawQ (.q 0 (.q 1 (.q 2 (.q 3 (.q 4 (.q 5 (.q 6 (.q 7 (.one 8 (.q 9 (.q 10 (.done)))))))))))) 8 follows (by kernel_rfl) ?_
 refine Jo rfl rfl (Ql rfl rfl) ?_
 refine Jo rfl rfl (Ql rfl rfl) ?_
 have c46 := ck_l H; replace H := ck_r H
 refine Jo rfl rfl (ps_indexAddrRN (i := 0) rfl rfl c46 rfl) ?_
 refine Jo rfl rfl (ps_loadR rfl c46 rfl rfl) ?_
 refine Jo rfl rfl (Ql rfl rfl) ?_
 have c47 := ck_l H; replace H := ck_r H
 refine Jo rfl rfl (ps_indexAddrRN (i := 1) rfl rfl c47 rfl) ?_
 refine Jo rfl rfl (ps_loadR rfl c47 rfl rfl) ?_
 refine Jo rfl rfl (ps_build (Jn _ _ _ _ _ _ _ _ FdP.of (Part.one _ rfl rfl) rfl rfl (Jn _ _ _ _ _ _ _ _ FdP.of (Part.one _ rfl rfl) rfl rfl (Jn _ _ _ _ _ _ _ _ FdP.of (Part.one _ rfl rfl) rfl rfl (Parts.nil _)))) rfl) ?_
 have hb := Jd H; clear H
 obtain ⟨q51, e50, H⟩ := hb
 refine GoQ.lastT rfl Qs (ef_callT true rfl (Qd _ _ _ _ _ Qk (Qd _ _ _ _ _ Qk (Qd _ _ _ _ _ Qk (Qd _ _ _ _ _ Qk (Qm _))))) (Qm _) (desk_do_spec d_ (⟨3, (r42.getD 0 (0 : Int)), 0, (r42.getD 1 (0 : Int)), ByteArray.empty⟩ : Deed) false βd_ βd__1 βd__2 βd__3 e50) (Qq (Qp _ _) (Qq (Lend.agA ⟨⟨⟨⟨⟨Qs, Qp _ _⟩, Qp _ _⟩, Qp _ _⟩, Qp _ _⟩, Qp _ _⟩) (Qq (Qp _ _) (Qz)))) rfl nil_fps (fun rr HH hp => ?_)) (Qd _ _ _ _ _ Qk (Qd _ _ _ _ _ Qk (Qd _ _ _ _ _ Qk (Qd _ _ _ _ _ Qk (Qm _))))) (fun rr HH hp => ?_)
 obtain ⟨⟨x52, x53⟩, rfl, β54, β55, β56, rfl, rfl⟩ := hp
 replace H := on_ex H
 obtain rfl := Qf H
 exact GoT.ends (Qd _ _ _ _ _ Qk (Qd _ _ _ _ _ Qk (Qd _ _ _ _ _ Qk (Qd _ _ _ _ _ Qk (Qm _))))) ⟨_, rfl, β54, β55, β56, rfl, rfl⟩
 obtain ⟨⟨r48, x49⟩, rfl, β57, β58, β59, rfl, rfl⟩ := hp
 replace H := on_ok H
 refine Qx rfl (Qi rfl rfl) ?_
 refine Qx rfl (Qi rfl rfl) ?_
 refine GoP.done ?_
 refine Qe ?_
 obtain rfl := Qf H
 exact GoC.retLT (ds := [.v (.string r48), .v (.bool true)]) Tryd.results19 (Qt (Qv rfl) (Qt (Qv rfl) (Je))) (Qd _ _ _ _ _ Qk (Qd _ _ _ _ _ Qk (Qd _ _ _ _ _ Qk (Qd _ _ _ _ _ Qk (Qm _))))) ⟨_, rfl, β57, β58, β59, rfl, rfl⟩
 replace H := Ju h41 H
 refine Qj (Qc ?_)
 refine Qa (ps_eqlStr rfl rfl rfl) ?_
 refine Qa (Qi rfl rfl) ?_
 refine Qo (Qe ?_)
 refine Jc rfl (fun h60 => ?_) (fun h60 => ?_)
 replace H := Jt h60 H
 refine Qj (Qc ?_)
 refine Qa (Ql rfl rfl) ?_
 refine Qa (Ql rfl rfl) ?_
 have hb := Jd H; clear H
 obtain ⟨q63, e62, H⟩ := hb
 refine GoO.callT true rfl (Qm _) (Qm _) (desk_numbers_specF l 1 e62) (Qq (Qp _ _) (Qq (Qp _ _) (Qz))) rfl nil_fps (fun rr HH hp => ?_) (fun rr HH hp => ?_)
 obtain ⟨x64, rfl, rfl, rfl⟩ := hp
 replace H := on_ex H
 obtain rfl := Qf H
 exact GoT.ends (Qd _ _ _ _ _ Qk (Qd _ _ _ _ _ Qk (Qd _ _ _ _ _ Qk (Qd _ _ _ _ _ Qk (Qm _))))) ⟨_, rfl, βd__1, βd__2, βd__3, rfl, rfl⟩
 obtain ⟨r61, rfl, rfl, rfl⟩ := hp
 replace H := on_ok H
 have c65 := ck_l H; replace H := ck_r H
 refine Qa (ps_indexAddrRN (i := 0) rfl rfl c65 rfl) ?_
 refine Qa (ps_loadR rfl c65 rfl rfl) ?_
 refine Qa (ps_build (Jn _ _ _ _ _ _ _ _ FdP.of (Part.one _ rfl rfl) rfl rfl (Jn _ _ _ _ _ _ _ _ FdP.of (Part.one _ rfl rfl) rfl rfl (Parts.nil _))) rfl) ?_
 have hb := Jd H; clear H
 obtain ⟨q69, e68, H⟩ := hb
 refine GoO.callT true rfl (Qd _ _ _ _ _ Qk (Qd _ _ _ _ _ Qk (Qd _ _ _ _ _ Qk (Qd _ _ _ _ _ Qk (Qm _))))) (Qm _) (desk_do_spec d_ (⟨4, (r61.getD 0 (0 : Int)), 0, 0, ByteArray.empty⟩ : Deed) false βd_ βd__1 βd__2 βd__3 e68) (Qq (Qp _ _) (Qq (Lend.agA ⟨⟨⟨⟨⟨Qs, Qp _ _⟩, Qp _ _⟩, Qp _ _⟩, Qp _ _⟩, Qp _ _⟩) (Qq (Qp _ _) (Qz)))) rfl nil_fps (fun rr HH hp => ?_) (fun rr HH hp => ?_)
 obtain ⟨⟨x70, x71⟩, rfl, β72, β73, β74, rfl, rfl⟩ := hp
 replace H := on_ex H
 obtain rfl := Qf H
 exact GoT.ends (Qd _ _ _ _ _ Qk (Qd _ _ _ _ _ Qk (Qd _ _ _ _ _ Qk (Qd _ _ _ _ _ Qk (Qm _))))) ⟨_, rfl, β72, β73, β74, rfl, rfl⟩
 obtain ⟨⟨r66, x67⟩, rfl, β75, β76, β77, rfl, rfl⟩ := hp
 replace H := on_ok H
 refine Qa (Qi rfl rfl) ?_
 refine Qa (Qi rfl rfl) ?_
 refine Qo (Qe ?_)
 obtain rfl := Qf H
 exact GoC.retLT (ds := [.v (.string r66), .v (.bool true)]) Tryd.results19 (Qt (Qv rfl) (Qt (Qv rfl) (Je))) (Qd _ _ _ _ _ Qk (Qd _ _ _ _ _ Qk (Qd _ _ _ _ _ Qk (Qd _ _ _ _ _ Qk (Qm _))))) ⟨_, rfl, β75, β76, β77, rfl, rfl⟩
 replace H := Ju h60 H
 refine Qj (Qc ?_)
 refine Qa (ps_eqlStr rfl rfl rfl) ?_
 refine Qa (Qi rfl rfl) ?_
 refine Qo (Qe ?_)
 refine Jc rfl (fun h78 => ?_) (fun h78 => ?_)
 replace H := Jt h78 H
 refine Qj (Qc ?_)
 refine Qa (Ql rfl rfl) ?_
 have hb := Jd H; clear H
 obtain ⟨q81, e80, H⟩ := hb
 refine GoO.callT true rfl (Qm _) (Qm _) (desk_numbers_specF l 2 e80) (Qq (Qp _ _) (Qq (Qp _ _) (Qz))) rfl nil_fps (fun rr HH hp => ?_) (fun rr HH hp => ?_)
 obtain ⟨x82, rfl, rfl, rfl⟩ := hp
 replace H := on_ex H
 obtain rfl := Qf H
 exact GoT.ends (Qd _ _ _ _ _ Qk (Qd _ _ _ _ _ Qk (Qd _ _ _ _ _ Qk (Qd _ _ _ _ _ Qk (Qm _))))) ⟨_, rfl, βd__1, βd__2, βd__3, rfl, rfl⟩
 obtain ⟨r79, rfl, rfl, rfl⟩ := hp
 replace H := on_ok H
 refine Qa (Qi rfl rfl) ?_
 refine Qo (Qe (Qj ?_))
 refine GoC.drawQ (.q 0 (.q 1 (.q 2 (.q 3 (.q 4 (.q 5 (.q 6 (.q 7 (.one 8 (.q 9 (.q 10 (.done)))))))))))) 8 follows (by kernel_rfl) ?_
 refine Jo rfl rfl (Ql rfl rfl) ?_
 refine Jo rfl rfl (Ql rfl rfl) ?_
 have c83 := ck_l H; replace H := ck_r H
 refine Jo rfl rfl (ps_indexAddrRN (i := 0) rfl rfl c83 rfl) ?_
 refine Jo rfl rfl (ps_loadR rfl c83 rfl rfl) ?_
 refine Jo rfl rfl (Ql rfl rfl) ?_
 have c84 := ck_l H; replace H := ck_r H
 refine Jo rfl rfl (ps_indexAddrRN (i := 1) rfl rfl c84 rfl) ?_
 refine Jo rfl rfl (ps_loadR rfl c84 rfl rfl) ?_
 refine Jo rfl rfl (ps_build (Jn _ _ _ _ _ _ _ _ FdP.of (Part.one _ rfl rfl) rfl rfl (Jn _ _ _ _ _ _ _ _ FdP.of (Part.one _ rfl rfl) rfl rfl (Jn _ _ _ _ _ _ _ _ FdP.of (Part.one _ rfl rfl) rfl rfl (Parts.nil _)))) rfl) ?_
 have hb := Jd H; clear H
 obtain ⟨q88, e87, H⟩ := hb
 refine GoQ.lastT rfl Qs (ef_callT true rfl (Qd _ _ _ _ _ Qk (Qd _ _ _ _ _ Qk (Qd _ _ _ _ _ Qk (Qd _ _ _ _ _ Qk (Qm _))))) (Qm _) (desk_do_spec d_ (⟨5, (r79.getD 0 (0 : Int)), (r79.getD 1 (0 : Int)), 0, ByteArray.empty⟩ : Deed) false βd_ βd__1 βd__2 βd__3 e87) (Qq (Qp _ _) (Qq (Lend.agA ⟨⟨⟨⟨⟨Qs, Qp _ _⟩, Qp _ _⟩, Qp _ _⟩, Qp _ _⟩, Qp _ _⟩) (Qq (Qp _ _) (Qz)))) rfl nil_fps (fun rr HH hp => ?_)) (Qd _ _ _ _ _ Qk (Qd _ _ _ _ _ Qk (Qd _ _ _ _ _ Qk (Qd _ _ _ _ _ Qk (Qm _))))) (fun rr HH hp => ?_)
 obtain ⟨⟨x89, x90⟩, rfl, β91, β92, β93, rfl, rfl⟩ := hp
 replace H := on_ex H
 obtain rfl := Qf H
 exact GoT.ends (Qd _ _ _ _ _ Qk (Qd _ _ _ _ _ Qk (Qd _ _ _ _ _ Qk (Qd _ _ _ _ _ Qk (Qm _))))) ⟨_, rfl, β91, β92, β93, rfl, rfl⟩
 obtain ⟨⟨r85, x86⟩, rfl, β94, β95, β96, rfl, rfl⟩ := hp
 replace H := on_ok H
 refine Qx rfl (Qi rfl rfl) ?_
 refine Qx rfl (Qi rfl rfl) ?_
 refine GoP.done ?_
 refine Qe ?_
 obtain rfl := Qf H
 exact GoC.retLT (ds := [.v (.string r85), .v (.bool true)]) Tryd.results19 (Qt (Qv rfl) (Qt (Qv rfl) (Je))) (Qd _ _ _ _ _ Qk (Qd _ _ _ _ _ Qk (Qd _ _ _ _ _ Qk (Qd _ _ _ _ _ Qk (Qm _))))) ⟨_, rfl, β94, β95, β96, rfl, rfl⟩
 replace H := Ju h78 H
 have hb := Jd H; clear H
 obtain ⟨b97, H, HK98⟩ := hb
 refine GoC.seqJ [(0, .rp 1 1 (st1 (nth [.ptr βd_ 8 0 0])).get 0 0), (1, .v (.string word)), (2, slD l)] [.one βd_ 48 8 (st1 (nth [.v (.int .i64 d_.now.net.n), .v (.int .i64 d_.now.net.s), .v (.int .i64 d_.now.net.t), slD d_.now.net.as, slD d_.now.flow, .own βd__1 5 0 d_.old.length, .own βd__2 1 0 d_.names.length, .own βd__3 5 0 d_.saved.length])), .one βd__1 45 5 (row d_.old), .one βd__2 9 1 (row d_.names), .one βd__3 45 5 (row d_.saved)] (fun v h => v = [(81, .v (.bool b97))] ∧ h = []) ?_ ?_
 refine Qj (Qc ?_)
 refine Qa (ps_eqlStr rfl rfl rfl) ?_
 refine Qa (Qi rfl rfl) ?_
 refine Qo (Qe ?_)
 refine Jc rfl (fun h100 => ?_) (fun h100 => ?_)
 replace H := Jt h100 H
 refine Jg ?_
 cases H
 exact Jr ⟨rfl, rfl⟩ (Qg rfl (Jm rfl (DLe.rp1 ⟨Qs, Qb _⟩) (Qg rfl (Qg rfl (Qy))))) (Qn _ _ _ _ _ Qk (Jj ⟨⟨⟨⟨⟨⟨⟨⟨Qs, Qb _⟩, Qb _⟩, Qb _⟩, Qb _⟩, Qb _⟩, Qb _⟩, Qb _⟩, Qb _⟩) (Qn _ _ _ _ _ Qk (Qr _) (Qn _ _ _ _ _ Qk (Qr _) (Qn _ _ _ _ _ Qk (Qr _) (Jb _)))))
 replace H := Ju h100 H
 refine Qc ?_
 refine Qa (ps_eqlStr rfl rfl rfl) ?_
 refine Qa (Qi rfl rfl) ?_
 refine Qo ?_
 cases H
 exact Jr ⟨rfl, rfl⟩ (Qg rfl (Jm rfl (DLe.rp1 ⟨Qs, Qb _⟩) (Qg rfl (Qg rfl (Qy))))) (Qn _ _ _ _ _ Qk (Jj ⟨⟨⟨⟨⟨⟨⟨⟨Qs, Qb _⟩, Qb _⟩, Qb _⟩, Qb _⟩, Qb _⟩, Qb _⟩, Qb _⟩, Qb _⟩) (Qn _ _ _ _ _ Qk (Qr _) (Qn _ _ _ _ _ Qk (Qr _) (Qn _ _ _ _ _ Qk (Qr _) (Jb _)))))
 rintro v h ⟨rfl, rfl⟩
 have H := HK98; clear HK98
 refine GoC.cond rfl (fun h101 => ?_) (fun h101 => ?_)
 replace H := itb_t h101 H
 have hb := Jd H; clear H
 obtain ⟨q103, H, HK102⟩ := hb
 refine GoC.seqJ [(0, .rp 1 1 (st1 (nth [.ptr βd_ 8 0 0])).get 0 0), (1, .v (.string word)), (2, slD l)] [.one βd_ 48 8 (st1 (nth [.v (.int .i64 d_.now.net.n), .v (.int .i64 d_.now.net.s), .v (.int .i64 d_.now.net.t), slD d_.now.net.as, slD d_.now.flow, .own βd__1 5 0 d_.old.length, .own βd__2 1 0 d_.names.length, .own βd__3 5 0 d_.saved.length])), .one βd__1 45 5 (row d_.old), .one βd__2 9 1 (row d_.names), .one βd__3 45 5 (row d_.saved)] (fun v h => q103 = .go () ∧ v = [] ∧ h = []) ?_ ?_
 refine Qj (Qc ?_)
 refine Qa (Ql rfl rfl) ?_
 refine Qa (ps_len rfl (by constructor) rfl) ?_
 refine GoO.lenLe (n := l.length) (x := .tmp 84) rfl (by constructor) sl_lenLe (fun ml104 => ?_)
 refine Qa (ps_neq rfl rfl rfl) ?_
 refine Qo (Qe ?_)
 refine Jc rfl (fun h105 => ?_) (fun h105 => ?_)
 replace H := Jt h105 H
 refine Qc ?_
 have hb := Jd H; clear H
 obtain ⟨q107, e106, H⟩ := hb
 refine GoO.callT false rfl (Qm _) (Qm _) (desk_must_spec 12 e106) (Qq (Qp _ _) (Qz)) rfl ⟨IndepP.ok (fun o => desk_must_I o), IndepP.ex (fun o => desk_must_J o)⟩ (fun rr HH hp => ?_) (fun rr HH hp => ?_)
 obtain ⟨x108, rfl, rfl, rfl⟩ := hp
 replace H := on_ex H
 obtain rfl := Qf H
 obtain rfl := Qf HK102
 exact GoT.ends (Qd _ _ _ _ _ Qk (Qd _ _ _ _ _ Qk (Qd _ _ _ _ _ Qk (Qd _ _ _ _ _ Qk (Qm _))))) ⟨_, rfl, βd__1, βd__2, βd__3, rfl, rfl⟩
 obtain ⟨_, rfl, rfl, rfl⟩ := hp
 replace H := on_ok H
 refine Qo ?_
 obtain rfl := Qf H
 exact Jr ⟨rfl, rfl, rfl⟩ (Jm rfl (DLe.rp1 ⟨Qs, Qb _⟩) (Qg rfl (Qg rfl (Qy)))) (Qn _ _ _ _ _ Qk (Jj ⟨⟨⟨⟨⟨⟨⟨⟨Qs, Qb _⟩, Qb _⟩, Qb _⟩, Qb _⟩, Qb _⟩, Qb _⟩, Qb _⟩, Qb _⟩) (Qn _ _ _ _ _ Qk (Qr _) (Qn _ _ _ _ _ Qk (Qr _) (Qn _ _ _ _ _ Qk (Qr _) (Jb _)))))
 replace H := Ju h105 H
 refine Jg ?_
 obtain rfl := Qf H
 exact Jr ⟨rfl, rfl, rfl⟩ (Jm rfl (DLe.rp1 ⟨Qs, Qb _⟩) (Qg rfl (Qg rfl (Qy)))) (Qn _ _ _ _ _ Qk (Jj ⟨⟨⟨⟨⟨⟨⟨⟨Qs, Qb _⟩, Qb _⟩, Qb _⟩, Qb _⟩, Qb _⟩, Qb _⟩, Qb _⟩, Qb _⟩) (Qn _ _ _ _ _ Qk (Qr _) (Qn _ _ _ _ _ Qk (Qr _) (Qn _ _ _ _ _ Qk (Qr _) (Jb _)))))
 rintro v h ⟨rfl, rfl, rfl⟩
 have H := HK102; clear HK102
 refine Qj (Qc ?_)
 refine Qa (Qi rfl rfl) ?_
 refine Qo (Qe ?_)
 have hb := Jd H; clear H
 obtain ⟨x109, H, HK110⟩ := hb
 refine GoC.seqJ [(0, .rp 1 1 (st1 (nth [.ptr βd_ 8 0 0])).get 0 0), (2, slD l)] [.one βd_ 48 8 (st1 (nth [.v (.int .i64 d_.now.net.n), .v (.int .i64 d_.now.net.s), .v (.int .i64 d_.now.net.t), slD d_.now.net.as, slD d_.now.flow, .own βd__1 5 0 d_.old.length, .own βd__2 1 0 d_.names.length, .own βd__3 5 0 d_.saved.length])), .one βd__1 45 5 (row d_.old), .one βd__2 9 1 (row d_.names), .one βd__3 45 5 (row d_.saved)] (fun v h => v = [(12, .v (.int .i64 x109))] ∧ h = []) ?_ ?_
 refine Qj (Qc ?_)
 refine Qa (Ql rfl rfl) ?_
 refine Qa (ps_eqlStr rfl rfl rfl) ?_
 refine Qo (Qe ?_)
 refine Jc rfl (fun h112 => ?_) (fun h112 => ?_)
 replace H := Jt h112 H
 refine Qc ?_
 refine Qa (Qi rfl rfl) ?_
 refine Qo ?_
 cases H
 exact Jr ⟨rfl, rfl⟩ (Qg rfl (Jm rfl (DLe.rp1 ⟨Qs, Qb _⟩) (Qg rfl (Qy)))) (Qn _ _ _ _ _ Qk (Jj ⟨⟨⟨⟨⟨⟨⟨⟨Qs, Qb _⟩, Qb _⟩, Qb _⟩, Qb _⟩, Qb _⟩, Qb _⟩, Qb _⟩, Qb _⟩) (Qn _ _ _ _ _ Qk (Qr _) (Qn _ _ _ _ _ Qk (Qr _) (Qn _ _ _ _ _ Qk (Qr _) (Jb _)))))
 replace H := Ju h112 H
 refine Jg ?_
 cases H
 exact Jr ⟨rfl, rfl⟩ (Qg rfl (Jm rfl (DLe.rp1 ⟨Qs, Qb _⟩) (Qg rfl (Qy)))) (Qn _ _ _ _ _ Qk (Jj ⟨⟨⟨⟨⟨⟨⟨⟨Qs, Qb _⟩, Qb _⟩, Qb _⟩, Qb _⟩, Qb _⟩, Qb _⟩, Qb _⟩, Qb _⟩) (Qn _ _ _ _ _ Qk (Qr _) (Qn _ _ _ _ _ Qk (Qr _) (Qn _ _ _ _ _ Qk (Qr _) (Jb _)))))
 rintro v h ⟨rfl, rfl⟩
 have H := HK110; clear HK110
 refine Qj (Qc ?_)
 refine Qa (Ql rfl rfl) ?_
 refine Qa (Ql rfl rfl) ?_
 refine Qa (Ql rfl rfl) ?_
 have c113 := ck_l H; replace H := ck_r H
 refine Qa (ps_indexAddrRN (i := 0) rfl rfl c113 rfl) ?_
 refine Qa (ps_loadR rfl c113 rfl rfl) ?_
 refine Qa (ps_build (Jn _ _ _ _ _ _ _ _ FdP.of (Part.one _ rfl rfl) rfl rfl (Jn _ _ _ _ _ _ _ _ FdP.of (Part.one _ rfl rfl) rfl rfl (Parts.nil _))) rfl) ?_
 have hb := Jd H; clear H
 obtain ⟨q117, e116, H⟩ := hb
 refine GoO.callT true rfl (Qd _ _ _ _ _ Qk (Qd _ _ _ _ _ Qk (Qd _ _ _ _ _ Qk (Qd _ _ _ _ _ Qk (Qm _))))) (Qm _) (desk_do_spec d_ (⟨x109, 0, 0, 0, (l.getD 0 El.d)⟩ : Deed) false βd_ βd__1 βd__2 βd__3 e116) (Qq (Qp _ _) (Qq (Lend.agA ⟨⟨⟨⟨⟨Qs, Qp _ _⟩, Qp _ _⟩, Qp _ _⟩, Qp _ _⟩, Qp _ _⟩) (Qq (Qp _ _) (Qz)))) rfl nil_fps (fun rr HH hp => ?_) (fun rr HH hp => ?_)
 obtain ⟨⟨x118, x119⟩, rfl, β120, β121, β122, rfl, rfl⟩ := hp
 replace H := on_ex H
 obtain rfl := Qf H
 exact GoT.ends (Qd _ _ _ _ _ Qk (Qd _ _ _ _ _ Qk (Qd _ _ _ _ _ Qk (Qd _ _ _ _ _ Qk (Qm _))))) ⟨_, rfl, β120, β121, β122, rfl, rfl⟩
 obtain ⟨⟨r114, x115⟩, rfl, β123, β124, β125, rfl, rfl⟩ := hp
 replace H := on_ok H
 refine Qa (Qi rfl rfl) ?_
 refine Qa (Qi rfl rfl) ?_
 refine Qo (Qe ?_)
 obtain rfl := Qf H
 exact GoC.retLT (ds := [.v (.string r114), .v (.bool true)]) Tryd.results19 (Qt (Qv rfl) (Qt (Qv rfl) (Je))) (Qd _ _ _ _ _ Qk (Qd _ _ _ _ _ Qk (Qd _ _ _ _ _ Qk (Qd _ _ _ _ _ Qk (Qm _))))) ⟨_, rfl, β123, β124, β125, rfl, rfl⟩
 replace H := itb_f h101 H
 refine Jg (GoK.blk (Qe (Qj (Qc ?_))))
 refine Qa (Qi rfl rfl) ?_
 refine Qa (Qi rfl rfl) ?_
 refine Qo (Qe ?_)
 obtain rfl := Qf H
 exact GoC.retLT (ds := [.v (.string (⟨#[]⟩ : ByteArray)), .v (.bool false)]) Tryd.results19 (Qt (Qv rfl) (Qt (Qv rfl) (Je))) (Qd _ _ _ _ _ Qk (Qd _ _ _ _ _ Qk (Qd _ _ _ _ _ Qk (Qd _ _ _ _ _ Qk (Qm _))))) ⟨_, rfl, βd__1, βd__2, βd__3, rfl, rfl⟩
def desk_graph_F (d_ : Store) : Option (Graph × Store) :=
 (store_Net_F d_).bind fun (r2, x4) =>
 some ((⟨r2.n, r2.as⟩ : Graph), x4)
def desk_graph_P (out : Graph × Store) (βd_ : BK) (βd__1 : BK) (βd__2 : BK) (βd__3 : BK) (d : D) (H : List HL) : Prop := ∃ β1 βx1 βx2 βx3 : BK, d = .ag 2 (nth [.v (.int .i64 out.1.n), .own β1 3 0 out.1.as.length]) ∧ H = [.one β1 83 3 (row out.1.as), .one βd_ 48 8 (st1 (nth [.v (.int .i64 out.2.now.net.n), .v (.int .i64 out.2.now.net.s), .v (.int .i64 out.2.now.net.t), slD out.2.now.net.as, slD out.2.now.flow, .own βx1 5 0 out.2.old.length, .own βx2 1 0 out.2.names.length, .own βx3 5 0 out.2.saved.length])), .one βx1 45 5 (row out.2.old), .one βx2 9 1 (row out.2.names), .one βx3 45 5 (row out.2.saved)]
set_option maxRecDepth 100000 in
set_option maxHeartbeats 4000000 in
theorem desk_graph_spec (d_ : Store) (βd_ : BK) (βd__1 : BK) (βd__2 : BK) (βd__3 : BK) {out : Graph × Store} (H : desk_graph_F d_ = some out) : Does Tryd.prog 28 [.rp 1 1 (st1 (nth [.ptr βd_ 8 0 0])).get 0 0] [.one βd_ 48 8 (st1 (nth [.v (.int .i64 d_.now.net.n), .v (.int .i64 d_.now.net.s), .v (.int .i64 d_.now.net.t), slD d_.now.net.as, slD d_.now.flow, .own βd__1 5 0 d_.old.length, .own βd__2 1 0 d_.names.length, .own βd__3 5 0 d_.saved.length])), .one βd__1 45 5 (row d_.old), .one βd__2 9 1 (row d_.names), .one βd__3 45 5 (row d_.saved)] (desk_graph_P out βd_ βd__1 βd__2 βd__3) := by
 unfold desk_graph_F at H
 refine Does.intro Tryd.func28 rfl Tryd.ntmps28 rfl fun w0 I0 tb0 => ?_
 refine Qj (Qc ?_)
 refine Jq (ef_alloc rfl) (fun β1 => ?_)
 refine Qo (Qe (Qj (Qc ?_)))
 refine Qa (Ql rfl rfl) ?_
 refine Qa (ps_nilCheckR rfl rfl) ?_
 refine Qa (ps_fieldAddrR rfl rfl) ?_
 refine Qa (ps_loadR rfl Qh rfl rfl) ?_
 have hb := Jd H; clear H
 obtain ⟨⟨r2, x4⟩, e5, H⟩ := hb
 refine GoO.callF rfl (Qd _ _ _ _ _ Jk (Qd _ _ _ _ _ Jk (Qd _ _ _ _ _ Jk (Qd _ _ _ _ _ Jk (Qm _))))) (Qm _) (store_Net_spec d_ βd_ βd__1 βd__2 βd__3 e5) (Qq (Qp _ _) (Qz)) rfl nil_fps (fun rr HH hp => ?_)
 obtain ⟨β3, β6, β7, β8, rfl, rfl⟩ := hp
 refine Jq (ef_alloc rfl) (fun β9 => ?_)
 refine GoO.eff1 (ef_storeAg rfl rfl Qw upd_whole Qh rfl) ?_
 refine Qo (Qe (Qj (Qc ?_)))
 refine Qa (Qu rfl rfl) ?_
 refine Qa (Jf rfl Qw Qw Qh rfl rfl) ?_
 refine Qa (Qu rfl rfl) ?_
 refine Qa (Jf rfl Qw Qw Qh rfl rfl) ?_
 refine Qa (ps_build (Jn _ _ _ _ _ _ _ _ FdP.of (Part.one _ rfl rfl) rfl rfl (Jn _ _ _ _ _ _ _ _ FdP.of (Part.one _ rfl rfl) rfl rfl (Parts.nil _))) rfl) ?_
 refine GoO.eff1 (ef_storeAg rfl rfl At.p6 upd_whole Qh rfl) ?_
 refine Qo (Qe ?_)
 obtain rfl := Qf H
 exact Jh (ds := [.ag 2 (nth [.v (.int .i64 r2.n), .own β3 3 0 r2.as.length])]) Tryd.results28 (Qt (ResD.le (ResD.cellAg rfl At.p6 Qh rfl) (by exact DLe.ag ⟨⟨Qs, Qb _⟩, Qb _⟩)) (Je)) (Qd _ _ _ _ _ Jk (Qd _ _ _ _ _ Jk (Qd _ _ _ _ _ Jk (Qd _ _ _ _ _ Jk (Qd _ _ _ _ _ Jk (Qm _)))))) ⟨β3, β6, β7, β8, rfl, rfl⟩
def desk_bare_F (d_ : Store) (word : ByteArray) : Option (Thr (ByteArray × Store) (Int × Store)) :=
 if word = (⟨#[117, 110, 100, 111]⟩ : ByteArray) then
  (desk_do_F d_ (⟨6, 0, 0, 0, ByteArray.empty⟩ : Deed) false).bind fun q => q.on (fun (x6, x7) =>
   some (.ex (x6, x7))) fun (r2, x3) =>
  some (.ok (r2, x3))
 else
  if word = (⟨#[118, 97, 108, 117, 101]⟩ : ByteArray) then
   (desk_do_F d_ (⟨9, 0, 0, 0, ByteArray.empty⟩ : Deed) true).bind fun q => q.on (fun (x19, x20) =>
    some (.ex (x19, x20))) fun (r15, x16) =>
   some (.ok (r15, x16))
  else
   if word = (⟨#[115, 105, 100, 101]⟩ : ByteArray) then
    (desk_do_F d_ (⟨10, 0, 0, 0, ByteArray.empty⟩ : Deed) true).bind fun q => q.on (fun (x32, x33) =>
     some (.ex (x32, x33))) fun (r28, x29) =>
    some (.ok (r28, x29))
   else
    if word = (⟨#[97, 114, 99, 115]⟩ : ByteArray) then
     (desk_do_F d_ (⟨11, 0, 0, 0, ByteArray.empty⟩ : Deed) true).bind fun q => q.on (fun (x45, x46) =>
      some (.ex (x45, x46))) fun (r41, x42) =>
     some (.ok (r41, x42))
    else
     if word = (⟨#[116, 114, 101, 101, 115]⟩ : ByteArray) then
      (desk_graph_F d_).bind fun (r54, x56) =>
      (tree_Count_F r54).bind fun (r61, r62) =>
      (desk_must_F r62).bind fun q => q.on (fun x66 =>
       some (.ex (x66, x56))) fun () =>
      (strconv_Itoa_F r61).bind fun r67 =>
      some (.ok (r67, x56))
     else
      (desk_must_F 12).bind fun q => q.on (fun x71 =>
       some (.ex (x71, d_))) fun () =>
      some (.ok ((⟨#[]⟩ : ByteArray), d_))
def desk_bare_P (out : ByteArray × Store) (βd_ : BK) (βd__1 : BK) (βd__2 : BK) (βd__3 : BK) (d : D) (H : List HL) : Prop := ∃ βx1 βx2 βx3 : BK, d = .v (.string out.1) ∧ H = [.one βd_ 48 8 (st1 (nth [.v (.int .i64 out.2.now.net.n), .v (.int .i64 out.2.now.net.s), .v (.int .i64 out.2.now.net.t), slD out.2.now.net.as, slD out.2.now.flow, .own βx1 5 0 out.2.old.length, .own βx2 1 0 out.2.names.length, .own βx3 5 0 out.2.saved.length])), .one βx1 45 5 (row out.2.old), .one βx2 9 1 (row out.2.names), .one βx3 45 5 (row out.2.saved)]
def desk_bare_T (out : Int × Store) (βd_ : BK) (βd__1 : BK) (βd__2 : BK) (βd__3 : BK) (d : D) (H : List HL) : Prop := ∃ βx1 βx2 βx3 : BK, d = .v (.iface 51 (.agg #[.int .i64 out.1])) ∧ H = [.one βd_ 48 8 (st1 (nth [.v (.int .i64 out.2.now.net.n), .v (.int .i64 out.2.now.net.s), .v (.int .i64 out.2.now.net.t), slD out.2.now.net.as, slD out.2.now.flow, .own βx1 5 0 out.2.old.length, .own βx2 1 0 out.2.names.length, .own βx3 5 0 out.2.saved.length])), .one βx1 45 5 (row out.2.old), .one βx2 9 1 (row out.2.names), .one βx3 45 5 (row out.2.saved)]
set_option maxRecDepth 100000 in
set_option maxHeartbeats 4000000 in
theorem desk_bare_spec (d_ : Store) (word : ByteArray) (βd_ : BK) (βd__1 : BK) (βd__2 : BK) (βd__3 : BK) {out : Thr (ByteArray × Store) (Int × Store)} (H : desk_bare_F d_ word = some out) : DoesT Tryd.prog 31 [.rp 1 1 (st1 (nth [.ptr βd_ 8 0 0])).get 0 0, .v (.string word)] [.one βd_ 48 8 (st1 (nth [.v (.int .i64 d_.now.net.n), .v (.int .i64 d_.now.net.s), .v (.int .i64 d_.now.net.t), slD d_.now.net.as, slD d_.now.flow, .own βd__1 5 0 d_.old.length, .own βd__2 1 0 d_.names.length, .own βd__3 5 0 d_.saved.length])), .one βd__1 45 5 (row d_.old), .one βd__2 9 1 (row d_.names), .one βd__3 45 5 (row d_.saved)] (fun d H => ∃ o, out = .ok o ∧ desk_bare_P o βd_ βd__1 βd__2 βd__3 d H) (fun d H => ∃ o, out = .ex o ∧ desk_bare_T o βd_ βd__1 βd__2 βd__3 d H) := by
 unfold desk_bare_F at H
 refine DoesT.intro Tryd.func31 rfl Tryd.ntmps31 rfl fun w0 I0 tb0 => ?_
 refine Qj (Qc ?_)
 refine Qa (Qi rfl rfl) ?_
 refine Qo (Qe (Qj (Qj (Qc ?_))))
 refine Qa (Ql rfl rfl) ?_
 refine Qo (Qe (GoC.block (Qj (Qc ?_))))
 refine Qa (ps_eqlStr rfl rfl rfl) ?_
 refine Qa (Qi rfl rfl) ?_
 refine Qo (Qe ?_)
 refine Jc rfl (fun h1 => ?_) (fun h1 => ?_)
 replace H := Jt h1 H
 refine Qj (Qc ?_)
 refine Qa (Ql rfl rfl) ?_
 refine Qa (ps_build (Jn _ _ _ _ _ _ _ _ FdP.of (Part.one _ rfl rfl) rfl rfl (Parts.nil _)) rfl) ?_
 have hb := Jd H; clear H
 obtain ⟨q5, e4, H⟩ := hb
 refine GoO.callT true rfl (Qd _ _ _ _ _ Qk (Qd _ _ _ _ _ Qk (Qd _ _ _ _ _ Qk (Qd _ _ _ _ _ Qk (Qm _))))) (Qm _) (desk_do_spec d_ (⟨6, 0, 0, 0, ByteArray.empty⟩ : Deed) false βd_ βd__1 βd__2 βd__3 e4) (Qq (Qp _ _) (Qq (Lend.agA ⟨⟨⟨⟨⟨Qs, Qp _ _⟩, Qp _ _⟩, Qp _ _⟩, Qp _ _⟩, Qp _ _⟩) (Qq (Qp _ _) (Qz)))) rfl nil_fps (fun rr HH hp => ?_) (fun rr HH hp => ?_)
 obtain ⟨⟨x6, x7⟩, rfl, β8, β9, β10, rfl, rfl⟩ := hp
 replace H := on_ex H
 obtain rfl := Qf H
 exact GoT.ends (Qd _ _ _ _ _ Qk (Qd _ _ _ _ _ Qk (Qd _ _ _ _ _ Qk (Qd _ _ _ _ _ Qk (Qm _))))) ⟨_, rfl, β8, β9, β10, rfl, rfl⟩
 obtain ⟨⟨r2, x3⟩, rfl, β11, β12, β13, rfl, rfl⟩ := hp
 replace H := on_ok H
 refine Qa (Qi rfl rfl) ?_
 refine Qo (Qe ?_)
 obtain rfl := Qf H
 exact GoC.retLT (ds := [.v (.string r2)]) Tryd.results31 (Qt (Qv rfl) (Je)) (Qd _ _ _ _ _ Qk (Qd _ _ _ _ _ Qk (Qd _ _ _ _ _ Qk (Qd _ _ _ _ _ Qk (Qm _))))) ⟨_, rfl, β11, β12, β13, rfl, rfl⟩
 replace H := Ju h1 H
 refine Qj (Qc ?_)
 refine Qa (ps_eqlStr rfl rfl rfl) ?_
 refine Qa (Qi rfl rfl) ?_
 refine Qo (Qe ?_)
 refine Jc rfl (fun h14 => ?_) (fun h14 => ?_)
 replace H := Jt h14 H
 refine Qj (Qc ?_)
 refine Qa (Ql rfl rfl) ?_
 refine Qa (ps_build (Jn _ _ _ _ _ _ _ _ FdP.of (Part.one _ rfl rfl) rfl rfl (Parts.nil _)) rfl) ?_
 have hb := Jd H; clear H
 obtain ⟨q18, e17, H⟩ := hb
 refine GoO.callT true rfl (Qd _ _ _ _ _ Qk (Qd _ _ _ _ _ Qk (Qd _ _ _ _ _ Qk (Qd _ _ _ _ _ Qk (Qm _))))) (Qm _) (desk_do_spec d_ (⟨9, 0, 0, 0, ByteArray.empty⟩ : Deed) true βd_ βd__1 βd__2 βd__3 e17) (Qq (Qp _ _) (Qq (Lend.agA ⟨⟨⟨⟨⟨Qs, Qp _ _⟩, Qp _ _⟩, Qp _ _⟩, Qp _ _⟩, Qp _ _⟩) (Qq (Qp _ _) (Qz)))) rfl nil_fps (fun rr HH hp => ?_) (fun rr HH hp => ?_)
 obtain ⟨⟨x19, x20⟩, rfl, β21, β22, β23, rfl, rfl⟩ := hp
 replace H := on_ex H
 obtain rfl := Qf H
 exact GoT.ends (Qd _ _ _ _ _ Qk (Qd _ _ _ _ _ Qk (Qd _ _ _ _ _ Qk (Qd _ _ _ _ _ Qk (Qm _))))) ⟨_, rfl, β21, β22, β23, rfl, rfl⟩
 obtain ⟨⟨r15, x16⟩, rfl, β24, β25, β26, rfl, rfl⟩ := hp
 replace H := on_ok H
 refine Qa (Qi rfl rfl) ?_
 refine Qo (Qe ?_)
 obtain rfl := Qf H
 exact GoC.retLT (ds := [.v (.string r15)]) Tryd.results31 (Qt (Qv rfl) (Je)) (Qd _ _ _ _ _ Qk (Qd _ _ _ _ _ Qk (Qd _ _ _ _ _ Qk (Qd _ _ _ _ _ Qk (Qm _))))) ⟨_, rfl, β24, β25, β26, rfl, rfl⟩
 replace H := Ju h14 H
 refine Qj (Qc ?_)
 refine Qa (ps_eqlStr rfl rfl rfl) ?_
 refine Qa (Qi rfl rfl) ?_
 refine Qo (Qe ?_)
 refine Jc rfl (fun h27 => ?_) (fun h27 => ?_)
 replace H := Jt h27 H
 refine Qj (Qc ?_)
 refine Qa (Ql rfl rfl) ?_
 refine Qa (ps_build (Jn _ _ _ _ _ _ _ _ FdP.of (Part.one _ rfl rfl) rfl rfl (Parts.nil _)) rfl) ?_
 have hb := Jd H; clear H
 obtain ⟨q31, e30, H⟩ := hb
 refine GoO.callT true rfl (Qd _ _ _ _ _ Qk (Qd _ _ _ _ _ Qk (Qd _ _ _ _ _ Qk (Qd _ _ _ _ _ Qk (Qm _))))) (Qm _) (desk_do_spec d_ (⟨10, 0, 0, 0, ByteArray.empty⟩ : Deed) true βd_ βd__1 βd__2 βd__3 e30) (Qq (Qp _ _) (Qq (Lend.agA ⟨⟨⟨⟨⟨Qs, Qp _ _⟩, Qp _ _⟩, Qp _ _⟩, Qp _ _⟩, Qp _ _⟩) (Qq (Qp _ _) (Qz)))) rfl nil_fps (fun rr HH hp => ?_) (fun rr HH hp => ?_)
 obtain ⟨⟨x32, x33⟩, rfl, β34, β35, β36, rfl, rfl⟩ := hp
 replace H := on_ex H
 obtain rfl := Qf H
 exact GoT.ends (Qd _ _ _ _ _ Qk (Qd _ _ _ _ _ Qk (Qd _ _ _ _ _ Qk (Qd _ _ _ _ _ Qk (Qm _))))) ⟨_, rfl, β34, β35, β36, rfl, rfl⟩
 obtain ⟨⟨r28, x29⟩, rfl, β37, β38, β39, rfl, rfl⟩ := hp
 replace H := on_ok H
 refine Qa (Qi rfl rfl) ?_
 refine Qo (Qe ?_)
 obtain rfl := Qf H
 exact GoC.retLT (ds := [.v (.string r28)]) Tryd.results31 (Qt (Qv rfl) (Je)) (Qd _ _ _ _ _ Qk (Qd _ _ _ _ _ Qk (Qd _ _ _ _ _ Qk (Qd _ _ _ _ _ Qk (Qm _))))) ⟨_, rfl, β37, β38, β39, rfl, rfl⟩
 replace H := Ju h27 H
 refine Qj (Qc ?_)
 refine Qa (ps_eqlStr rfl rfl rfl) ?_
 refine Qa (Qi rfl rfl) ?_
 refine Qo (Qe ?_)
 refine Jc rfl (fun h40 => ?_) (fun h40 => ?_)
 replace H := Jt h40 H
 refine Qj (Qc ?_)
 refine Qa (Ql rfl rfl) ?_
 refine Qa (ps_build (Jn _ _ _ _ _ _ _ _ FdP.of (Part.one _ rfl rfl) rfl rfl (Parts.nil _)) rfl) ?_
 have hb := Jd H; clear H
 obtain ⟨q44, e43, H⟩ := hb
 refine GoO.callT true rfl (Qd _ _ _ _ _ Qk (Qd _ _ _ _ _ Qk (Qd _ _ _ _ _ Qk (Qd _ _ _ _ _ Qk (Qm _))))) (Qm _) (desk_do_spec d_ (⟨11, 0, 0, 0, ByteArray.empty⟩ : Deed) true βd_ βd__1 βd__2 βd__3 e43) (Qq (Qp _ _) (Qq (Lend.agA ⟨⟨⟨⟨⟨Qs, Qp _ _⟩, Qp _ _⟩, Qp _ _⟩, Qp _ _⟩, Qp _ _⟩) (Qq (Qp _ _) (Qz)))) rfl nil_fps (fun rr HH hp => ?_) (fun rr HH hp => ?_)
 obtain ⟨⟨x45, x46⟩, rfl, β47, β48, β49, rfl, rfl⟩ := hp
 replace H := on_ex H
 obtain rfl := Qf H
 exact GoT.ends (Qd _ _ _ _ _ Qk (Qd _ _ _ _ _ Qk (Qd _ _ _ _ _ Qk (Qd _ _ _ _ _ Qk (Qm _))))) ⟨_, rfl, β47, β48, β49, rfl, rfl⟩
 obtain ⟨⟨r41, x42⟩, rfl, β50, β51, β52, rfl, rfl⟩ := hp
 replace H := on_ok H
 refine Qa (Qi rfl rfl) ?_
 refine Qo (Qe ?_)
 obtain rfl := Qf H
 exact GoC.retLT (ds := [.v (.string r41)]) Tryd.results31 (Qt (Qv rfl) (Je)) (Qd _ _ _ _ _ Qk (Qd _ _ _ _ _ Qk (Qd _ _ _ _ _ Qk (Qd _ _ _ _ _ Qk (Qm _))))) ⟨_, rfl, β50, β51, β52, rfl, rfl⟩
 replace H := Ju h40 H
 refine Qj (Qc ?_)
 refine Qa (ps_eqlStr rfl rfl rfl) ?_
 refine Qa (Qi rfl rfl) ?_
 refine Qo (Qe ?_)
 refine Jc rfl (fun h53 => ?_) (fun h53 => ?_)
 replace H := Jt h53 H
 refine Qj (Qc ?_)
 refine Qa (Ql rfl rfl) ?_
 have hb := Jd H; clear H
 obtain ⟨⟨r54, x56⟩, e57, H⟩ := hb
 refine GoO.callF rfl (Qd _ _ _ _ _ Qk (Qd _ _ _ _ _ Qk (Qd _ _ _ _ _ Qk (Qd _ _ _ _ _ Qk (Qm _))))) (Qm _) (desk_graph_spec d_ βd_ βd__1 βd__2 βd__3 e57) (Qq (Qp _ _) (Qz)) rfl nil_fps (fun rr HH hp => ?_)
 obtain ⟨β55, β58, β59, β60, rfl, rfl⟩ := hp
 have hb := Jd H; clear H
 obtain ⟨⟨r61, r62⟩, e63, H⟩ := hb
 refine GoO.effC (ef_call rfl (Qm _) (Qd _ _ _ _ _ Qk (Qm _)) (tree_Count_spec r54 e63) (Qq (Lend.agA ⟨⟨Qs, Qp _ _⟩, Lend.all' Qw (by first | rfl | omega | (simp only [szl] <;> first | rfl | omega)) rfl⟩) (Qz)) rfl (tree_Count_I (r61, r62))) (fun rr HH hp => ?_)
 obtain ⟨rfl, rfl⟩ := hp
 refine Qa (Ql rfl rfl) ?_
 refine Qa (Ji rfl rfl rfl) ?_
 refine Qa (Ji rfl rfl rfl) ?_
 refine Qa (Qi rfl rfl) ?_
 refine Qa (Qi rfl rfl) ?_
 refine Qo (Qe (Qj (Qc ?_)))
 refine Qa (Ql rfl rfl) ?_
 have hb := Jd H; clear H
 obtain ⟨q65, e64, H⟩ := hb
 refine GoO.callT false rfl (Qm _) (Qm _) (desk_must_spec r62 e64) (Qq (Qp _ _) (Qz)) rfl ⟨IndepP.ok (fun o => desk_must_I o), IndepP.ex (fun o => desk_must_J o)⟩ (fun rr HH hp => ?_) (fun rr HH hp => ?_)
 obtain ⟨x66, rfl, rfl, rfl⟩ := hp
 replace H := on_ex H
 obtain rfl := Qf H
 exact GoT.ends (Qd _ _ _ _ _ Jk (Qd _ _ _ _ _ Jk (Qd _ _ _ _ _ Jk (Qd _ _ _ _ _ Jk (Qm _))))) ⟨_, rfl, β58, β59, β60, rfl, rfl⟩
 obtain ⟨_, rfl, rfl, rfl⟩ := hp
 replace H := on_ok H
 refine Qo (Qe (Qj (Qc ?_)))
 refine Qa (Ql rfl rfl) ?_
 have hb := Jd H; clear H
 obtain ⟨r67, e68, H⟩ := hb
 refine GoO.effC (ef_call rfl (Qm _) (Qm _) (strconv_Itoa_spec r61 e68) (Qq (Qp _ _) (Qz)) rfl (strconv_Itoa_I (r67))) (fun rr HH hp => ?_)
 obtain ⟨rfl, rfl⟩ := hp
 refine Qa (Qi rfl rfl) ?_
 refine Qo (Qe ?_)
 obtain rfl := Qf H
 exact GoC.retLT (ds := [.v (.string r67)]) Tryd.results31 (Qt (Qv rfl) (Je)) (Qd _ _ _ _ _ Jk (Qd _ _ _ _ _ Jk (Qd _ _ _ _ _ Jk (Qd _ _ _ _ _ Jk (Qm _))))) ⟨_, rfl, β58, β59, β60, rfl, rfl⟩
 replace H := Ju h53 H
 refine Jg (GoK.blk (Qe (Qj (Qc ?_))))
 have hb := Jd H; clear H
 obtain ⟨q70, e69, H⟩ := hb
 refine GoO.callT false rfl (Qm _) (Qm _) (desk_must_spec 12 e69) (Qq (Qp _ _) (Qz)) rfl ⟨IndepP.ok (fun o => desk_must_I o), IndepP.ex (fun o => desk_must_J o)⟩ (fun rr HH hp => ?_) (fun rr HH hp => ?_)
 obtain ⟨x71, rfl, rfl, rfl⟩ := hp
 replace H := on_ex H
 obtain rfl := Qf H
 exact GoT.ends (Qd _ _ _ _ _ Qk (Qd _ _ _ _ _ Qk (Qd _ _ _ _ _ Qk (Qd _ _ _ _ _ Qk (Qm _))))) ⟨_, rfl, βd__1, βd__2, βd__3, rfl, rfl⟩
 obtain ⟨_, rfl, rfl, rfl⟩ := hp
 replace H := on_ok H
 refine Qo (Qe (Qj (Qc ?_)))
 refine Qa (Qi rfl rfl) ?_
 refine Qo (Qe ?_)
 obtain rfl := Qf H
 exact GoC.retLT (ds := [.v (.string (⟨#[]⟩ : ByteArray))]) Tryd.results31 (Qt (Qv rfl) (Je)) (Qd _ _ _ _ _ Qk (Qd _ _ _ _ _ Qk (Qd _ _ _ _ _ Qk (Qd _ _ _ _ _ Qk (Qm _))))) ⟨_, rfl, βd__1, βd__2, βd__3, rfl, rfl⟩
def desk_asked_B1 (r34 : (List Int)) (r36 : (List Int)) : Nat → ByteArray → Option (ByteArray) := fun k49 st44 =>
 ck (k49 < r36.length) <|
 (strconv_Itoa_F (r34.getD k49 (0 : Int))).bind fun r52 =>
 ck (r52.size + (⟨#[47]⟩ : ByteArray).size ≤ 9223372036854775807) <|
 (strconv_Itoa_F (r36.getD k49 (0 : Int))).bind fun r55 =>
 ck ((r52 ++ (⟨#[47]⟩ : ByteArray)).size + r55.size ≤ 9223372036854775807) <|
 ck (((r52 ++ (⟨#[47]⟩ : ByteArray)) ++ r55).size + (⟨#[32]⟩ : ByteArray).size ≤ 9223372036854775807) <|
 ck (st44.size + (((r52 ++ (⟨#[47]⟩ : ByteArray)) ++ r55) ++ (⟨#[32]⟩ : ByteArray)).size ≤ 9223372036854775807) <|
 some (st44 ++ (((r52 ++ (⟨#[47]⟩ : ByteArray)) ++ r55) ++ (⟨#[32]⟩ : ByteArray)))
def desk_asked_B2 (l : (List ByteArray)) : Nat → Option (Ct (Nat) (Thr (ByteArray × Store) (Int × Store))) := fun n63 =>
 ck (InI (((n63 : Nat) : Int) * ((n63 : Nat) : Int))) <|
 if (((n63 : Nat) : Int) * ((n63 : Nat) : Int)) < ((l.length : Nat) : Int) then
  ck (InI (((n63 : Nat) : Int) + 1)) <|
  some (.go (n63 + 1))
 else
  some (.brk n63)
def desk_asked_B3 (n67 : Nat) (r75 : (List Int)) : Nat → (List (List Int)) → Option ((List (List Int))) := fun k86 l81 =>
 ck (InI (((k86 : Nat) : Int) * ((n67 : Nat) : Int))) <|
 ck (InI ((((k86 + 1) : Nat) : Int) * ((n67 : Nat) : Int))) <|
 ck (0 ≤ (((k86 : Nat) : Int) * ((n67 : Nat) : Int))) <|
 ck (0 ≤ ((((k86 + 1) : Nat) : Int) * ((n67 : Nat) : Int))) <|
 ck ((((k86 : Nat) : Int) * ((n67 : Nat) : Int)).toNat ≤ ((((k86 + 1) : Nat) : Int) * ((n67 : Nat) : Int)).toNat) <|
 ck (((((k86 + 1) : Nat) : Int) * ((n67 : Nat) : Int)).toNat ≤ r75.length) <|
 ck (l81.length + 1 ≤ 5864062014805) <|
 some (l81 ++ ([(subl r75 ((((k86 : Nat) : Int) * ((n67 : Nat) : Int)).toNat) (((((k86 + 1) : Nat) : Int) * ((n67 : Nat) : Int)).toNat - (((k86 : Nat) : Int) * ((n67 : Nat) : Int)).toNat))] : List (List Int)))
def desk_asked_B4 (r98 : (List Int)) : Nat → ByteArray → Option (ByteArray) := fun k115 st110 =>
 (strconv_Itoa_F (r98.getD k115 (0 : Int))).bind fun r117 =>
 ck (r117.size + (⟨#[32]⟩ : ByteArray).size ≤ 9223372036854775807) <|
 ck (st110.size + (r117 ++ (⟨#[32]⟩ : ByteArray)).size ≤ 9223372036854775807) <|
 some (st110 ++ (r117 ++ (⟨#[32]⟩ : ByteArray)))
def desk_asked_F (d_ : Store) (word : ByteArray) (l : (List ByteArray)) : Option (Thr (ByteArray × Store) (Int × Store)) :=
 if word = (⟨#[99, 111, 108, 111, 117, 114, 115]⟩ : ByteArray) then
  (desk_graph_F d_).bind fun (r2, x4) =>
  (desk_numbers_F l 1).bind fun q => q.on (fun x12 =>
   some (.ex (x12, x4))) fun r9 =>
  ck (0 < r9.length) <|
  (colour_Count_F r2 (r9.getD 0 (0 : Int))).bind fun (r14, r15) =>
  (desk_must_F r15).bind fun q => q.on (fun x19 =>
   some (.ex (x19, x4))) fun () =>
  (strconv_Itoa_F r14).bind fun r20 =>
  some (.ok (r20, x4))
 else
  if word = (⟨#[100, 101, 103, 114, 101, 101, 115]⟩ : ByteArray) then
   (desk_numbers_F l 0).bind fun q => q.on (fun x26 =>
    some (.ex (x26, d_))) fun r23 =>
   (desk_graph_F d_).bind fun (r27, x29) =>
   (graph_Degrees_F r27).bind fun (r34, r36, r38) =>
   (desk_must_F r38).bind fun q => q.on (fun x42 =>
    some (.ex (x42, x29))) fun () =>
   (forN (desk_asked_B1 r34 r36) r34.length 0 (⟨#[]⟩ : ByteArray)).bind fun st48 =>
   ck (st48.size + (⟨#[46]⟩ : ByteArray).size ≤ 9223372036854775807) <|
   some (.ok ((st48 ++ (⟨#[46]⟩ : ByteArray)), x29))
  else
   if word = (⟨#[97, 115, 115, 105, 103, 110]⟩ : ByteArray) then
    (loopC (desk_asked_B2 l) 1000000 0).bind fun q => match q with
    | .go n67 =>
     ck (InI (((n67 : Nat) : Int) * ((n67 : Nat) : Int))) <|
     (desk_numbers_F l (((n67 : Nat) : Int) * ((n67 : Nat) : Int))).bind fun q => q.on (fun x78 =>
      some (.ex (x78, d_))) fun r75 =>
     ck (InI ((n67 : Nat) : Int)) <|
     (forN (desk_asked_B3 n67 r75) n67 0 []).bind fun l85 =>
     (assign_Best_F l85).bind fun (r98, r100, r101) =>
     (desk_must_F r101).bind fun q => q.on (fun x105 =>
      some (.ex (x105, d_))) fun () =>
     (strconv_Itoa_F r100).bind fun r106 =>
     ck (r106.size + (⟨#[32]⟩ : ByteArray).size ≤ 9223372036854775807) <|
     (forN (desk_asked_B4 r98) r98.length 0 (r106 ++ (⟨#[32]⟩ : ByteArray))).bind fun st114 =>
     ck (st114.size + (⟨#[46]⟩ : ByteArray).size ≤ 9223372036854775807) <|
     some (.ok ((st114 ++ (⟨#[46]⟩ : ByteArray)), d_))
    | .ret x => some x
   else
    ((
     if 0 < ((l.length : Nat) : Int) then
      (desk_must_F 12).bind fun q => q.on (fun x129 =>
       some (.ret (.ex (x129, d_)))) fun () =>
      some (.go ())
     else
      some (.go ())) : Option (Ex (Unit) (Thr (ByteArray × Store) (Int × Store)))).bind fun q => match q with
    | .go () =>
     (desk_bare_F d_ word).bind fun q => q.on (fun (x134, x135) =>
      some (.ex (x134, x135))) fun (r130, x131) =>
     some (.ok (r130, x131))
    | .ret x => some x
def desk_asked_P (out : ByteArray × Store) (βd_ : BK) (βd__1 : BK) (βd__2 : BK) (βd__3 : BK) (d : D) (H : List HL) : Prop := ∃ βx1 βx2 βx3 : BK, d = .v (.string out.1) ∧ H = [.one βd_ 48 8 (st1 (nth [.v (.int .i64 out.2.now.net.n), .v (.int .i64 out.2.now.net.s), .v (.int .i64 out.2.now.net.t), slD out.2.now.net.as, slD out.2.now.flow, .own βx1 5 0 out.2.old.length, .own βx2 1 0 out.2.names.length, .own βx3 5 0 out.2.saved.length])), .one βx1 45 5 (row out.2.old), .one βx2 9 1 (row out.2.names), .one βx3 45 5 (row out.2.saved)]
def desk_asked_T (out : Int × Store) (βd_ : BK) (βd__1 : BK) (βd__2 : BK) (βd__3 : BK) (d : D) (H : List HL) : Prop := ∃ βx1 βx2 βx3 : BK, d = .v (.iface 51 (.agg #[.int .i64 out.1])) ∧ H = [.one βd_ 48 8 (st1 (nth [.v (.int .i64 out.2.now.net.n), .v (.int .i64 out.2.now.net.s), .v (.int .i64 out.2.now.net.t), slD out.2.now.net.as, slD out.2.now.flow, .own βx1 5 0 out.2.old.length, .own βx2 1 0 out.2.names.length, .own βx3 5 0 out.2.saved.length])), .one βx1 45 5 (row out.2.old), .one βx2 9 1 (row out.2.names), .one βx3 45 5 (row out.2.saved)]
set_option maxRecDepth 100000 in
set_option maxHeartbeats 4000000 in
theorem desk_asked_spec (d_ : Store) (word : ByteArray) (l : (List ByteArray)) (βd_ : BK) (βd__1 : BK) (βd__2 : BK) (βd__3 : BK) {out : Thr (ByteArray × Store) (Int × Store)} (H : desk_asked_F d_ word l = some out) : DoesT Tryd.prog 20 [.rp 1 1 (st1 (nth [.ptr βd_ 8 0 0])).get 0 0, .v (.string word), slD l] [.one βd_ 48 8 (st1 (nth [.v (.int .i64 d_.now.net.n), .v (.int .i64 d_.now.net.s), .v (.int .i64 d_.now.net.t), slD d_.now.net.as, slD d_.now.flow, .own βd__1 5 0 d_.old.length, .own βd__2 1 0 d_.names.length, .own βd__3 5 0 d_.saved.length])), .one βd__1 45 5 (row d_.old), .one βd__2 9 1 (row d_.names), .one βd__3 45 5 (row d_.saved)] (fun d H => ∃ o, out = .ok o ∧ desk_asked_P o βd_ βd__1 βd__2 βd__3 d H) (fun d H => ∃ o, out = .ex o ∧ desk_asked_T o βd_ βd__1 βd__2 βd__3 d H) := by
 unfold desk_asked_F at H
 refine DoesT.intro Tryd.func20 rfl Tryd.ntmps20 rfl fun w0 I0 tb0 => ?_
 refine Qj (Qc ?_)
 refine Qa (Qi rfl rfl) ?_
 refine Qo (Qe (Qj (Qj (Qc ?_))))
 refine Qa (Ql rfl rfl) ?_
 refine Qo (Qe (GoC.block (Qj (Qc ?_))))
 refine Qa (ps_eqlStr rfl rfl rfl) ?_
 refine Qa (Qi rfl rfl) ?_
 refine Qo (Qe ?_)
 refine Jc rfl (fun h1 => ?_) (fun h1 => ?_)
 replace H := Jt h1 H
 refine Qj (Qc ?_)
 refine Qa (Ql rfl rfl) ?_
 have hb := Jd H; clear H
 obtain ⟨⟨r2, x4⟩, e5, H⟩ := hb
 refine GoO.callF rfl (Qd _ _ _ _ _ Qk (Qd _ _ _ _ _ Qk (Qd _ _ _ _ _ Qk (Qd _ _ _ _ _ Qk (Qm _))))) (Qm _) (desk_graph_spec d_ βd_ βd__1 βd__2 βd__3 e5) (Qq (Qp _ _) (Qz)) rfl nil_fps (fun rr HH hp => ?_)
 obtain ⟨β3, β6, β7, β8, rfl, rfl⟩ := hp
 refine Qa (Ql rfl rfl) ?_
 have hb := Jd H; clear H
 obtain ⟨q11, e10, H⟩ := hb
 refine GoO.callT true rfl (Qm _) (Qm _) (desk_numbers_specF l 1 e10) (Qq (Qp _ _) (Qq (Qp _ _) (Qz))) rfl nil_fps (fun rr HH hp => ?_) (fun rr HH hp => ?_)
 obtain ⟨x12, rfl, rfl, rfl⟩ := hp
 replace H := on_ex H
 obtain rfl := Qf H
 exact GoT.ends (Qd _ _ _ _ _ Jk (Qd _ _ _ _ _ Jk (Qd _ _ _ _ _ Jk (Qd _ _ _ _ _ Jk (Qm _))))) ⟨_, rfl, β6, β7, β8, rfl, rfl⟩
 obtain ⟨r9, rfl, rfl, rfl⟩ := hp
 replace H := on_ok H
 have c13 := ck_l H; replace H := ck_r H
 refine Qa (ps_indexAddrRN (i := 0) rfl rfl c13 rfl) ?_
 refine Qa (ps_loadR rfl c13 rfl rfl) ?_
 have hb := Jd H; clear H
 obtain ⟨⟨r14, r15⟩, e16, H⟩ := hb
 refine GoO.effC (ef_call rfl (Qm _) (Qd _ _ _ _ _ Qk (Qm _)) (colour_Count_spec r2 (r9.getD 0 (0 : Int)) e16) (Qq (Lend.agA ⟨⟨Qs, Qp _ _⟩, Lend.all' Qw (by first | rfl | omega | (simp only [szl] <;> first | rfl | omega)) rfl⟩) (Qq (Qp _ _) (Qz))) rfl (colour_Count_I (r14, r15))) (fun rr HH hp => ?_)
 obtain ⟨rfl, rfl⟩ := hp
 refine Qa (Ql rfl rfl) ?_
 refine Qa (Ji rfl rfl rfl) ?_
 refine Qa (Ji rfl rfl rfl) ?_
 refine Qa (Qi rfl rfl) ?_
 refine Qa (Qi rfl rfl) ?_
 refine Qo (Qe (Qj (Qc ?_)))
 refine Qa (Ql rfl rfl) ?_
 have hb := Jd H; clear H
 obtain ⟨q18, e17, H⟩ := hb
 refine GoO.callT false rfl (Qm _) (Qm _) (desk_must_spec r15 e17) (Qq (Qp _ _) (Qz)) rfl ⟨IndepP.ok (fun o => desk_must_I o), IndepP.ex (fun o => desk_must_J o)⟩ (fun rr HH hp => ?_) (fun rr HH hp => ?_)
 obtain ⟨x19, rfl, rfl, rfl⟩ := hp
 replace H := on_ex H
 obtain rfl := Qf H
 exact GoT.ends (Qd _ _ _ _ _ Jk (Qd _ _ _ _ _ Jk (Qd _ _ _ _ _ Jk (Qd _ _ _ _ _ Jk (Qm _))))) ⟨_, rfl, β6, β7, β8, rfl, rfl⟩
 obtain ⟨_, rfl, rfl, rfl⟩ := hp
 replace H := on_ok H
 refine Qo (Qe (Qj (Qc ?_)))
 refine Qa (Ql rfl rfl) ?_
 have hb := Jd H; clear H
 obtain ⟨r20, e21, H⟩ := hb
 refine GoO.effC (ef_call rfl (Qm _) (Qm _) (strconv_Itoa_spec r14 e21) (Qq (Qp _ _) (Qz)) rfl (strconv_Itoa_I (r20))) (fun rr HH hp => ?_)
 obtain ⟨rfl, rfl⟩ := hp
 refine Qa (Qi rfl rfl) ?_
 refine Qo (Qe ?_)
 obtain rfl := Qf H
 exact GoC.retLT (ds := [.v (.string r20)]) Tryd.results20 (Qt (Qv rfl) (Je)) (Qd _ _ _ _ _ Jk (Qd _ _ _ _ _ Jk (Qd _ _ _ _ _ Jk (Qd _ _ _ _ _ Jk (Qm _))))) ⟨_, rfl, β6, β7, β8, rfl, rfl⟩
 replace H := Ju h1 H
 refine Qj (Qc ?_)
 refine Qa (ps_eqlStr rfl rfl rfl) ?_
 refine Qa (Qi rfl rfl) ?_
 refine Qo (Qe ?_)
 refine Jc rfl (fun h22 => ?_) (fun h22 => ?_)
 replace H := Jt h22 H
 refine Qj (Qc ?_)
 refine Qa (Ql rfl rfl) ?_
 have hb := Jd H; clear H
 obtain ⟨q25, e24, H⟩ := hb
 refine GoO.callT true rfl (Qm _) (Qm _) (desk_numbers_specF l 0 e24) (Qq (Qp _ _) (Qq (Qp _ _) (Qz))) rfl nil_fps (fun rr HH hp => ?_) (fun rr HH hp => ?_)
 obtain ⟨x26, rfl, rfl, rfl⟩ := hp
 replace H := on_ex H
 obtain rfl := Qf H
 exact GoT.ends (Qd _ _ _ _ _ Qk (Qd _ _ _ _ _ Qk (Qd _ _ _ _ _ Qk (Qd _ _ _ _ _ Qk (Qm _))))) ⟨_, rfl, βd__1, βd__2, βd__3, rfl, rfl⟩
 obtain ⟨r23, rfl, rfl, rfl⟩ := hp
 replace H := on_ok H
 refine Qo (Qe (Qj (Qc ?_)))
 refine Qa (Ql rfl rfl) ?_
 have hb := Jd H; clear H
 obtain ⟨⟨r27, x29⟩, e30, H⟩ := hb
 refine GoO.callF rfl (Qd _ _ _ _ _ Qk (Qd _ _ _ _ _ Qk (Qd _ _ _ _ _ Qk (Qd _ _ _ _ _ Qk (Qm _))))) (Qm _) (desk_graph_spec d_ βd_ βd__1 βd__2 βd__3 e30) (Qq (Qp _ _) (Qz)) rfl nil_fps (fun rr HH hp => ?_)
 obtain ⟨β28, β31, β32, β33, rfl, rfl⟩ := hp
 have hb := Jd H; clear H
 obtain ⟨⟨r34, r36, r38⟩, e39, H⟩ := hb
 refine GoO.effC (ef_call rfl (Qm _) (Qd _ _ _ _ _ Qk (Qm _)) (graph_Degrees_spec r27 e39) (Qq (Lend.agA ⟨⟨Qs, Qp _ _⟩, Lend.all' Qw (by first | rfl | omega | (simp only [szl] <;> first | rfl | omega)) rfl⟩) (Qz)) rfl (graph_Degrees_I (r34, r36, r38))) (fun rr HH hp => ?_)
 obtain ⟨β35, β37, rfl, rfl⟩ := hp
 refine Qa (Ql rfl rfl) ?_
 refine Qa (Ji rfl rfl rfl) ?_
 refine Qa (Ji rfl rfl rfl) ?_
 refine Qa (Ji rfl rfl rfl) ?_
 refine Qa (Qi rfl rfl) ?_
 refine Qa (Qi rfl rfl) ?_
 refine Qa (Qi rfl rfl) ?_
 refine Qo (Qe (Qj (Qc ?_)))
 refine Qa (Ql rfl rfl) ?_
 have hb := Jd H; clear H
 obtain ⟨q41, e40, H⟩ := hb
 refine GoO.callT false rfl (Qm _) (Qm _) (desk_must_spec r38 e40) (Qq (Qp _ _) (Qz)) rfl ⟨IndepP.ok (fun o => desk_must_I o), IndepP.ex (fun o => desk_must_J o)⟩ (fun rr HH hp => ?_) (fun rr HH hp => ?_)
 obtain ⟨x42, rfl, rfl, rfl⟩ := hp
 replace H := on_ex H
 obtain rfl := Qf H
 exact GoT.ends (Qd _ _ _ _ _ Rem.p3 (Qd _ _ _ _ _ Rem.p3 (Qd _ _ _ _ _ Rem.p3 (Qd _ _ _ _ _ Rem.p3 (Qm _))))) ⟨_, rfl, β31, β32, β33, rfl, rfl⟩
 obtain ⟨_, rfl, rfl, rfl⟩ := hp
 replace H := on_ok H
 refine Qo (Qe (Qj (Qc ?_)))
 refine Qa (Qi rfl rfl) ?_
 refine Qo (Qe (Qj (Qj (Qc ?_))))
 refine Qa (Ql rfl rfl) ?_
 refine Qa (ps_len rfl (by constructor) rfl) ?_
 refine GoO.lenLe (n := r34.length) (x := .tmp 54) rfl (by constructor) own_lenLe (fun ml43 => ?_)
 refine Qa (Ql rfl rfl) ?_
 refine Qo (Qe ?_)
 have hb := Jd H; clear H
 obtain ⟨st48, hl60, HK45⟩ := hb
 refine GoC.blockJ [] [.one β35 3 1 (row r34), .one β37 3 1 (row r36), .one β28 83 3 (row r27.as), .one βd_ 48 8 (st1 (nth [.v (.int .i64 x29.now.net.n), .v (.int .i64 x29.now.net.s), .v (.int .i64 x29.now.net.t), slD x29.now.net.as, slD x29.now.flow, .own β31 5 0 x29.old.length, .own β32 1 0 x29.names.length, .own β33 5 0 x29.saved.length])), .one β31 45 5 (row x29.old), .one β32 9 1 (row x29.names), .one β33 45 5 (row x29.saved)] (fun v h => v = [(12, .v (.string st48))] ∧ h = []) ?_ ?_
 refine GoC.loopJ [(9, _), (10, _), (55, _)] [.one β35 3 1 (row r34), .one β37 3 1 (row r36), .one β28 83 3 (row r27.as), .one βd_ 48 8 (st1 (nth [.v (.int .i64 x29.now.net.n), .v (.int .i64 x29.now.net.s), .v (.int .i64 x29.now.net.t), slD x29.now.net.as, slD x29.now.flow, .own β31 5 0 x29.old.length, .own β32 1 0 x29.names.length, .own β33 5 0 x29.saved.length])), .one β31 45 5 (row x29.old), .one β32 9 1 (row x29.names), .one β33 45 5 (row x29.saved)] (fun mQ v h => ∃ (k49 : Nat) (st44 : ByteArray), (k49 + mQ = r34.length ∧ forN (desk_asked_B1 r34 r36) mQ k49 st44 = some st48) ∧ v = [(56, .v (.int .i64 ((k49 : Nat) : Int))), (12, .v (.string st44))] ∧ h = []) r34.length ⟨_, _, ⟨by omega, hl60⟩, rfl, rfl⟩ (Qg rfl (Qg rfl (Qg rfl (Qg rfl (Qg rfl (Qy)))))) (Qn _ _ _ _ _ Qk (Qr _) (Qn _ _ _ _ _ Qk (Qr _) (Qn _ _ _ _ _ Qk (Qr _) (Qn _ _ _ _ _ Qk (Jj ⟨⟨⟨⟨⟨⟨⟨⟨Qs, Qb _⟩, Qb _⟩, Qb _⟩, Qb _⟩, Qb _⟩, Qb _⟩, Qb _⟩, Qb _⟩) (Qn _ _ _ _ _ Qk (Qr _) (Qn _ _ _ _ _ Qk (Qr _) (Qn _ _ _ _ _ Qk (Qr _) (Jb _)))))))) ?_
 rintro m50 v h ⟨k49, st44, ⟨hkk49, hF46⟩, rfl, rfl⟩
 refine Qj (Qc ?_)
 refine Qa (ps_lss rfl rfl rfl) ?_
 refine Qo (Qe (Qj ?_))
 refine Jc rfl (fun (hk49 : (k49 : Int) < ((r34.length : Nat) : Int)) => ?_) (fun (hk49 : ¬ (k49 : Int) < ((r34.length : Nat) : Int)) => ?_)
 obtain ⟨m50', rfl⟩ : ∃ x, m50 = x + 1 := ⟨m50 - 1, by omega⟩
 have hb := Jd hF46; clear hF46
 obtain ⟨qrm50, H, hF46⟩ := hb
 have hnk49 : k49 < r34.length := by omega
 have hIk49 : InI ((k49 : Int) + 1) := inI_len hk49 ml43
 refine Jg (Qe (Qj (GoC.block (Qj (Qc ?_)))))
 refine Qa (Ql rfl rfl) ?_
 refine Qa (Qi rfl rfl) ?_
 refine Qo (Qe ?_)
 refine GoC.drawA (.q 0 (.q 1 (.q 2 (.q 3 (.q 4 (.q 7 (.q 8 (.q 9 (.q 10 (.one 5 (.q 6 (.one 11 (.q 12 (.q 13 (.q 14 (.q 15 (.done))))))))))))))))) follows (by kernel_rfl) ?_
 refine Qx rfl (Ql rfl rfl) ?_
 refine Qx rfl (Ql rfl rfl) ?_
 refine Qx rfl (Ql rfl rfl) ?_
 refine Qx rfl (ps_indexAddr0N rfl rfl hnk49 rfl) ?_
 refine Qx rfl (Jf rfl Qw Qw hnk49 rfl rfl) ?_
 refine Qx rfl (Ql rfl rfl) ?_
 refine Qx rfl (Ql rfl rfl) ?_
 have c51 := ck_l H; replace H := ck_r H
 refine Qx rfl (ps_indexAddr0N rfl rfl c51 rfl) ?_
 refine Qx rfl (Jf rfl Js Js c51 rfl rfl) ?_
 have hb := Jd H; clear H
 obtain ⟨r52, e53, H⟩ := hb
 refine GoP.oneC rfl Qs (ef_call rfl (Qm _) (Qm _) (strconv_Itoa_spec (r34.getD k49 (0 : Int)) e53) (Qq (Qp _ _) (Qz)) rfl (strconv_Itoa_I (r52))) (Qd _ _ _ _ _ Qk (Qd _ _ _ _ _ Qk (Qd _ _ _ _ _ Qk (Qd _ _ _ _ _ Qk (Qd _ _ _ _ _ Qk (Qd _ _ _ _ _ Qk (Qd _ _ _ _ _ Qk (Qm _)))))))) (fun rr HH hp => ?_)
 obtain ⟨rfl, rfl⟩ := hp
 have c54 := ck_l H; replace H := ck_r H
 refine Qx rfl (ps_addStr rfl rfl c54 rfl) ?_
 have hb := Jd H; clear H
 obtain ⟨r55, e56, H⟩ := hb
 refine GoP.oneC rfl Qs (ef_call rfl (Qm _) (Qm _) (strconv_Itoa_spec (r36.getD k49 (0 : Int)) e56) (Qq (Qp _ _) (Qz)) rfl (strconv_Itoa_I (r55))) (Qd _ _ _ _ _ Qk (Qd _ _ _ _ _ Qk (Qd _ _ _ _ _ Qk (Qd _ _ _ _ _ Qk (Qd _ _ _ _ _ Qk (Qd _ _ _ _ _ Qk (Qd _ _ _ _ _ Qk (Qm _)))))))) (fun rr HH hp => ?_)
 obtain ⟨rfl, rfl⟩ := hp
 have c57 := ck_l H; replace H := ck_r H
 refine Qx rfl (ps_addStr rfl rfl c57 rfl) ?_
 have c58 := ck_l H; replace H := ck_r H
 refine Qx rfl (ps_addStr rfl rfl c58 rfl) ?_
 have c59 := ck_l H; replace H := ck_r H
 refine Qx rfl (ps_addStr rfl rfl c59 rfl) ?_
 refine Qx rfl (Qi rfl rfl) ?_
 refine GoP.done ?_
 refine GoK.blk (Qe (Qc ?_))
 refine Qa (ps_add rfl rfl rfl hIk49) ?_
 refine Qa (Ql rfl rfl) ?_
 refine Qo ?_
 obtain rfl := Qf H
 exact GoK.againJ m50' (by omega) ⟨_, _, ⟨by omega, hF46⟩, rfl, rfl⟩ (Qg rfl (Qg rfl (Qg rfl (Qg rfl (Qg rfl (Qy)))))) (Qn _ _ _ _ _ Qk (Qr _) (Qn _ _ _ _ _ Qk (Qr _) (Qn _ _ _ _ _ Qk (Qr _) (Qn _ _ _ _ _ Qk (Jj ⟨⟨⟨⟨⟨⟨⟨⟨Qs, Qb _⟩, Qb _⟩, Qb _⟩, Qb _⟩, Qb _⟩, Qb _⟩, Qb _⟩, Qb _⟩) (Qn _ _ _ _ _ Qk (Qr _) (Qn _ _ _ _ _ Qk (Qr _) (Qn _ _ _ _ _ Qk (Qr _) (Jb _))))))))
 obtain rfl : m50 = 0 := by omega
 refine GoC.exit rfl ?_
 cases hF46
 exact Jr ⟨rfl, rfl⟩ (Qg rfl (Qy)) (Qn _ _ _ _ _ Qk (Qr _) (Qn _ _ _ _ _ Qk (Qr _) (Qn _ _ _ _ _ Qk (Qr _) (Qn _ _ _ _ _ Qk (Jj ⟨⟨⟨⟨⟨⟨⟨⟨Qs, Qb _⟩, Qb _⟩, Qb _⟩, Qb _⟩, Qb _⟩, Qb _⟩, Qb _⟩, Qb _⟩) (Qn _ _ _ _ _ Qk (Qr _) (Qn _ _ _ _ _ Qk (Qr _) (Qn _ _ _ _ _ Qk (Qr _) (Jb _))))))))
 rintro v h ⟨rfl, rfl⟩
 have H := HK45; clear HK45
 refine Qe (Qj (Qc ?_))
 refine Qa (Ql rfl rfl) ?_
 have c61 := ck_l H; replace H := ck_r H
 refine Qa (ps_addStr rfl rfl c61 rfl) ?_
 refine Qa (Qi rfl rfl) ?_
 refine Qo (Qe ?_)
 obtain rfl := Qf H
 exact GoC.retLT (ds := [.v (.string (st48 ++ (⟨#[46]⟩ : ByteArray)))]) Tryd.results20 (Qt (Qv rfl) (Je)) (Qd _ _ _ _ _ Rem.p3 (Qd _ _ _ _ _ Rem.p3 (Qd _ _ _ _ _ Rem.p3 (Qd _ _ _ _ _ Rem.p3 (Qm _))))) ⟨_, rfl, β31, β32, β33, rfl, rfl⟩
 replace H := Ju h22 H
 refine Qj (Qc ?_)
 refine Qa (ps_eqlStr rfl rfl rfl) ?_
 refine Qa (Qi rfl rfl) ?_
 refine Qo (Qe ?_)
 refine Jc rfl (fun h62 => ?_) (fun h62 => ?_)
 replace H := Jt h62 H
 refine Qj (Qc ?_)
 refine Qa (Qi rfl rfl) ?_
 refine Qo (Qe (Qj ?_))
 have hb := Jd H; clear H
 obtain ⟨q66, hl73, HK64⟩ := hb
 refine GoC.blockJ [(2, slD l)] [.one βd_ 48 8 (st1 (nth [.v (.int .i64 d_.now.net.n), .v (.int .i64 d_.now.net.s), .v (.int .i64 d_.now.net.t), slD d_.now.net.as, slD d_.now.flow, .own βd__1 5 0 d_.old.length, .own βd__2 1 0 d_.names.length, .own βd__3 5 0 d_.saved.length])), .one βd__1 45 5 (row d_.old), .one βd__2 9 1 (row d_.names), .one βd__3 45 5 (row d_.saved)] (fun v h => ∃ (n67 : Nat), q66 = .go n67 ∧ v = [(14, .v (.int .i64 ((n67 : Nat) : Int)))] ∧ h = []) ?_ ?_
 refine GoC.loopJ [(2, _)] [.one βd_ 48 8 (st1 (nth [.v (.int .i64 d_.now.net.n), .v (.int .i64 d_.now.net.s), .v (.int .i64 d_.now.net.t), slD d_.now.net.as, slD d_.now.flow, .own βd__1 5 0 d_.old.length, .own βd__2 1 0 d_.names.length, .own βd__3 5 0 d_.saved.length])), .one βd__1 45 5 (row d_.old), .one βd__2 9 1 (row d_.names), .one βd__3 45 5 (row d_.saved)] (fun mQ v h => ∃ (n63 : Nat), loopC (desk_asked_B2 l) mQ n63 = some q66 ∧ v = [(14, .v (.int .i64 ((n63 : Nat) : Int)))] ∧ h = []) 1000000 ⟨_, hl73, rfl, rfl⟩ (Qg rfl (Qg rfl (Qy))) (Qn _ _ _ _ _ Qk (Jj ⟨⟨⟨⟨⟨⟨⟨⟨Qs, Qb _⟩, Qb _⟩, Qb _⟩, Qb _⟩, Qb _⟩, Qb _⟩, Qb _⟩, Qb _⟩) (Qn _ _ _ _ _ Qk (Qr _) (Qn _ _ _ _ _ Qk (Qr _) (Qn _ _ _ _ _ Qk (Qr _) (Jb _))))) ?_
 rintro m68 v h ⟨n63, hF65, rfl, rfl⟩
 obtain ⟨m68', rfl⟩ | rfl : (∃ x, m68 = x + 1) ∨ m68 = 0 := by cases m68 <;> simp
 case inr => cases hF65
 have hb := Jd hF65; clear hF65
 obtain ⟨qrm68, H, hF65⟩ := hb
 refine Qj (Qj (Qc ?_))
 refine Qa (Ql rfl rfl) ?_
 refine Qa (Ql rfl rfl) ?_
 have c69 := ck_l H; replace H := ck_r H
 refine Qa (ps_mul rfl rfl rfl c69) ?_
 refine Qa (Ql rfl rfl) ?_
 refine Qa (ps_len rfl (by constructor) rfl) ?_
 refine GoO.lenLe (n := l.length) (x := .tmp 82) rfl (by constructor) sl_lenLe (fun ml70 => ?_)
 refine Qa (ps_lss rfl rfl rfl) ?_
 refine Qo (Qe ?_)
 refine Jc rfl (fun h71 => ?_) (fun h71 => ?_)
 replace H := Jt h71 H
 refine Jg (Qe (GoC.block (Qc ?_)))
 refine Qa (Ql rfl rfl) ?_
 have c72 := ck_l H; replace H := ck_r H
 refine Qa (ps_add rfl rfl rfl c72) ?_
 refine Qa (Qi rfl rfl) ?_
 refine Qo (GoK.blk ?_)
 obtain rfl := Qf H
 exact GoK.againJ m68' (by omega) ⟨_, hF65, rfl, rfl⟩ (Qg rfl (Qg rfl (Qy))) (Qn _ _ _ _ _ Qk (Jj ⟨⟨⟨⟨⟨⟨⟨⟨Qs, Qb _⟩, Qb _⟩, Qb _⟩, Qb _⟩, Qb _⟩, Qb _⟩, Qb _⟩, Qb _⟩) (Qn _ _ _ _ _ Qk (Qr _) (Qn _ _ _ _ _ Qk (Qr _) (Qn _ _ _ _ _ Qk (Qr _) (Jb _)))))
 replace H := Ju h71 H
 refine GoC.exit rfl ?_
 obtain rfl := Qf H
 obtain rfl := Qf hF65
 exact Jr ⟨_, rfl, rfl, rfl⟩ (Qg rfl (Qg rfl (Qy))) (Qn _ _ _ _ _ Qk (Jj ⟨⟨⟨⟨⟨⟨⟨⟨Qs, Qb _⟩, Qb _⟩, Qb _⟩, Qb _⟩, Qb _⟩, Qb _⟩, Qb _⟩, Qb _⟩) (Qn _ _ _ _ _ Qk (Qr _) (Qn _ _ _ _ _ Qk (Qr _) (Qn _ _ _ _ _ Qk (Qr _) (Jb _)))))
 rintro v h ⟨n67, rfl, rfl, rfl⟩
 have H := HK64; clear HK64
 refine Qe (Qj (Qc ?_))
 refine Qa (Ql rfl rfl) ?_
 refine Qa (Ql rfl rfl) ?_
 refine Qa (Ql rfl rfl) ?_
 have c74 := ck_l H; replace H := ck_r H
 refine Qa (ps_mul rfl rfl rfl c74) ?_
 have hb := Jd H; clear H
 obtain ⟨q77, e76, H⟩ := hb
 refine GoO.callT true rfl (Qm _) (Qm _) (desk_numbers_specF l (((n67 : Nat) : Int) * ((n67 : Nat) : Int)) e76) (Qq (Qp _ _) (Qq (Qp _ _) (Qz))) rfl nil_fps (fun rr HH hp => ?_) (fun rr HH hp => ?_)
 obtain ⟨x78, rfl, rfl, rfl⟩ := hp
 replace H := on_ex H
 obtain rfl := Qf H
 exact GoT.ends (Qd _ _ _ _ _ Qk (Qd _ _ _ _ _ Qk (Qd _ _ _ _ _ Qk (Qd _ _ _ _ _ Qk (Qm _))))) ⟨_, rfl, βd__1, βd__2, βd__3, rfl, rfl⟩
 obtain ⟨r75, rfl, rfl, rfl⟩ := hp
 replace H := on_ok H
 refine Qa (Qi rfl rfl) ?_
 refine Qo (Qe (Qj (Qc ?_)))
 refine Qa (Qi rfl rfl) ?_
 refine Qo (Qe (Qj (Qj (Qc ?_))))
 refine Qa (Ql rfl rfl) ?_
 refine Qa (Ql rfl rfl) ?_
 refine Qo (Qe ?_)
 have c79 := ck_l H; replace H := ck_r H
 have hb := Jd H; clear H
 obtain ⟨l85, hl97, HK82⟩ := hb
 refine GoC.blockJ [] [.one βd_ 48 8 (st1 (nth [.v (.int .i64 d_.now.net.n), .v (.int .i64 d_.now.net.s), .v (.int .i64 d_.now.net.t), slD d_.now.net.as, slD d_.now.flow, .own βd__1 5 0 d_.old.length, .own βd__2 1 0 d_.names.length, .own βd__3 5 0 d_.saved.length])), .one βd__1 45 5 (row d_.old), .one βd__2 9 1 (row d_.names), .one βd__3 45 5 (row d_.saved)] (fun v h => ∃ (β80 : BK), v = [(16, .own β80 1 0 l85.length)] ∧ h = [.one β80 43 1 (row l85)]) ?_ ?_
 refine GoC.loopJ [(14, _), (15, _), (92, _)] [.one βd_ 48 8 (st1 (nth [.v (.int .i64 d_.now.net.n), .v (.int .i64 d_.now.net.s), .v (.int .i64 d_.now.net.t), slD d_.now.net.as, slD d_.now.flow, .own βd__1 5 0 d_.old.length, .own βd__2 1 0 d_.names.length, .own βd__3 5 0 d_.saved.length])), .one βd__1 45 5 (row d_.old), .one βd__2 9 1 (row d_.names), .one βd__3 45 5 (row d_.saved)] (fun mQ v h => ∃ (k86 : Nat) (l81 : (List (List Int))) (β80 : BK), (k86 + mQ = n67 ∧ forN (desk_asked_B3 n67 r75) mQ k86 l81 = some l85) ∧ v = [(93, .v (.int .i64 ((k86 : Nat) : Int))), (16, .own β80 1 0 l81.length)] ∧ h = [.one β80 43 1 (row l81)]) n67 ⟨_, _, ⟨0, 0, 0⟩, ⟨by omega, hl97⟩, rfl, rfl⟩ (Qg rfl (Jm rfl (DLe.nilOwn) (Qg rfl (Qg rfl (Qg rfl (Qy)))))) (TkD.no _ _ _ _ _ rfl (Qn _ _ _ _ _ Qk (Jj ⟨⟨⟨⟨⟨⟨⟨⟨Qs, Qb _⟩, Qb _⟩, Qb _⟩, Qb _⟩, Qb _⟩, Qb _⟩, Qb _⟩, Qb _⟩) (Qn _ _ _ _ _ Qk (Qr _) (Qn _ _ _ _ _ Qk (Qr _) (Qn _ _ _ _ _ Qk (Qr _) (Jb _)))))) ?_
 rintro m87 v h ⟨k86, l81, β80, ⟨hkk86, hF83⟩, rfl, rfl⟩
 refine Qj (Qc ?_)
 refine Qa (ps_lss rfl rfl rfl) ?_
 refine Qo (Qe (Qj ?_))
 refine Jc rfl (fun (hk86 : (k86 : Int) < ((n67 : Nat) : Int)) => ?_) (fun (hk86 : ¬ (k86 : Int) < ((n67 : Nat) : Int)) => ?_)
 obtain ⟨m87', rfl⟩ : ∃ x, m87 = x + 1 := ⟨m87 - 1, by omega⟩
 have hb := Jd hF83; clear hF83
 obtain ⟨qrm87, H, hF83⟩ := hb
 have hnk86 : k86 < n67 := by omega
 have hIk86 : InI ((k86 : Int) + 1) := inI_cnt hk86 c79
 refine Jg (Qe (Qj (GoC.block (Qj (Qc ?_)))))
 refine Qa (Ql rfl rfl) ?_
 refine Qa (Qi rfl rfl) ?_
 refine Qo (Qe (Qc ?_))
 refine Qa (Ql rfl rfl) ?_
 refine Qa (Ql rfl rfl) ?_
 refine Qa (Ql rfl rfl) ?_
 refine Qa (Ql rfl rfl) ?_
 have c88 := ck_l H; replace H := ck_r H
 refine Qa (ps_mul rfl rfl rfl c88) ?_
 refine Qa (Ql rfl rfl) ?_
 refine Qa (ps_add rfl rfl rfl hIk86) ?_
 refine Qa (Ql rfl rfl) ?_
 have c89 := ck_l H; replace H := ck_r H
 refine Qa (ps_mul rfl rfl rfl c89) ?_
 have c90 := ck_l H; replace H := ck_r H
 have c91 := ck_l H; replace H := ck_r H
 have c92 := ck_l H; replace H := ck_r H
 have c93 := ck_l H; replace H := ck_r H
 refine Qa (ps_sliceR rfl (Bd.int _ _ _ _ rfl c90) (Bd.int _ _ _ _ rfl c91) c92 c93 rfl) ?_
 refine GoO.le (Le.re 105 rfl (DLe.part (xs := r75) (r := (((k86 : Nat) : Int) * ((n67 : Nat) : Int)).toNat) (len := ((((k86 + 1) : Nat) : Int) * ((n67 : Nat) : Int)).toNat - (((k86 : Nat) : Int) * ((n67 : Nat) : Int)).toNat) (by have := c92; have := c93; first | omega | (simp only [szl]; omega)))) ?_
 refine Jq (ef_buildSlice (row ([(subl r75 ((((k86 : Nat) : Int) * ((n67 : Nat) : Int)).toNat) (((((k86 + 1) : Nat) : Int) * ((n67 : Nat) : Int)).toNat - (((k86 : Nat) : Int) * ((n67 : Nat) : Int)).toNat))] : List (List Int))) rfl (Jn _ _ _ _ _ _ _ _ ⟨rfl, rfl⟩ (Part.one _ rfl rfl) rfl rfl (Parts.nil _)) rfl rfl rfl rfl) (fun β94 => ?_)
 have c96 := ck_l H; replace H := ck_r H
 refine Jq (ef_append rfl rfl Jk (Src.own Qw (by first | omega | (simp only [szl]; omega) | (simp only [szl]; done))) (cat_row (α := (List Int)) (by first | rfl | omega | (simp only [szl] <;> first | rfl | omega)) (by first | rfl | omega | (simp only [szl] <;> first | rfl | omega)) (fun _ _ _ _ => rfl)) (by first | omega | (simp only [szl]; omega) | (simp only [szl]; done)) (app_le c96 rfl) rfl rfl rfl) (fun β95 => ?_)
 refine Qa (Qi rfl rfl) ?_
 refine Qo (GoK.blk (Qe (Qc ?_)))
 refine Qa (ps_add rfl rfl rfl hIk86) ?_
 refine Qa (Ql rfl rfl) ?_
 refine Qo ?_
 obtain rfl := Qf H
 exact GoK.againJ m87' (by omega) ⟨_, _, β95, ⟨by omega, hF83⟩, rfl, rfl⟩ (Qg rfl (Jm rfl (Jp (by first | rfl | omega | (simp only [row_len, gridC_len, rowO_len, List.length_append, List.length_cons, List.length_nil, subl_length] <;> first | rfl | omega))) (Qg rfl (Qg rfl (Qg rfl (Qy)))))) (Qn _ _ _ _ _ Qk (Qr _) (Qn _ _ _ _ _ Jk (Jj ⟨⟨⟨⟨⟨⟨⟨⟨Qs, Qb _⟩, Qb _⟩, Qb _⟩, Qb _⟩, Qb _⟩, Qb _⟩, Qb _⟩, Qb _⟩) (Qn _ _ _ _ _ Jk (Qr _) (Qn _ _ _ _ _ Jk (Qr _) (Qn _ _ _ _ _ Jk (Qr _) (Jb _))))))
 obtain rfl : m87 = 0 := by omega
 refine GoC.exit rfl ?_
 cases hF83
 exact Jr ⟨β80, rfl, rfl⟩ (Jm rfl (Jp (by first | rfl | omega | (simp only [row_len, gridC_len, rowO_len] <;> first | rfl | omega))) (Qy)) (Qn _ _ _ _ _ Qk (Qr _) (Qn _ _ _ _ _ Qk (Jj ⟨⟨⟨⟨⟨⟨⟨⟨Qs, Qb _⟩, Qb _⟩, Qb _⟩, Qb _⟩, Qb _⟩, Qb _⟩, Qb _⟩, Qb _⟩) (Qn _ _ _ _ _ Qk (Qr _) (Qn _ _ _ _ _ Qk (Qr _) (Qn _ _ _ _ _ Qk (Qr _) (Jb _))))))
 rintro v h ⟨β80, rfl, rfl⟩
 have H := HK82; clear HK82
 refine Qe (Qj (Qc ?_))
 refine Qa (Ql rfl rfl) ?_
 have hb := Jd H; clear H
 obtain ⟨⟨r98, r100, r101⟩, e102, H⟩ := hb
 refine GoO.effC (ef_call rfl (Qm _) (Qd _ _ _ _ _ Qk (Qm _)) (assign_Best_spec l85 e102) (Qq (Lend.all' Qw (by first | rfl | omega | (simp only [szl] <;> first | rfl | omega)) rfl) (Qz)) rfl (assign_Best_I (r98, r100, r101))) (fun rr HH hp => ?_)
 obtain ⟨β99, rfl, rfl⟩ := hp
 refine Qa (Ql rfl rfl) ?_
 refine Qa (Ji rfl rfl rfl) ?_
 refine Qa (Ji rfl rfl rfl) ?_
 refine Qa (Ji rfl rfl rfl) ?_
 refine Qa (Qi rfl rfl) ?_
 refine Qa (Qi rfl rfl) ?_
 refine Qa (Qi rfl rfl) ?_
 refine Qo (Qe (Qj (Qc ?_)))
 refine Qa (Ql rfl rfl) ?_
 have hb := Jd H; clear H
 obtain ⟨q104, e103, H⟩ := hb
 refine GoO.callT false rfl (Qm _) (Qm _) (desk_must_spec r101 e103) (Qq (Qp _ _) (Qz)) rfl ⟨IndepP.ok (fun o => desk_must_I o), IndepP.ex (fun o => desk_must_J o)⟩ (fun rr HH hp => ?_) (fun rr HH hp => ?_)
 obtain ⟨x105, rfl, rfl, rfl⟩ := hp
 replace H := on_ex H
 obtain rfl := Qf H
 exact GoT.ends (Qd _ _ _ _ _ Rem.p2 (Qd _ _ _ _ _ Rem.p2 (Qd _ _ _ _ _ Rem.p2 (Qd _ _ _ _ _ Rem.p2 (Qm _))))) ⟨_, rfl, βd__1, βd__2, βd__3, rfl, rfl⟩
 obtain ⟨_, rfl, rfl, rfl⟩ := hp
 replace H := on_ok H
 refine Qo (Qe (Qj (Qc ?_)))
 refine Qa (Ql rfl rfl) ?_
 have hb := Jd H; clear H
 obtain ⟨r106, e107, H⟩ := hb
 refine GoO.effC (ef_call rfl (Qm _) (Qm _) (strconv_Itoa_spec r100 e107) (Qq (Qp _ _) (Qz)) rfl (strconv_Itoa_I (r106))) (fun rr HH hp => ?_)
 obtain ⟨rfl, rfl⟩ := hp
 have c108 := ck_l H; replace H := ck_r H
 refine Qa (ps_addStr rfl rfl c108 rfl) ?_
 refine Qa (Qi rfl rfl) ?_
 refine Qo (Qe (Qj (Qj (Qc ?_))))
 refine Qa (Ql rfl rfl) ?_
 refine Qa (ps_len rfl (by constructor) rfl) ?_
 refine GoO.lenLe (n := r98.length) (x := .tmp 120) rfl (by constructor) own_lenLe (fun ml109 => ?_)
 refine Qa (Ql rfl rfl) ?_
 refine Qo (Qe ?_)
 have hb := Jd H; clear H
 obtain ⟨st114, hl121, HK111⟩ := hb
 refine GoC.blockJ [] [.one β99 3 1 (row r98), .one β80 43 1 (row l85), .one βd_ 48 8 (st1 (nth [.v (.int .i64 d_.now.net.n), .v (.int .i64 d_.now.net.s), .v (.int .i64 d_.now.net.t), slD d_.now.net.as, slD d_.now.flow, .own βd__1 5 0 d_.old.length, .own βd__2 1 0 d_.names.length, .own βd__3 5 0 d_.saved.length])), .one βd__1 45 5 (row d_.old), .one βd__2 9 1 (row d_.names), .one βd__3 45 5 (row d_.saved)] (fun v h => v = [(21, .v (.string st114))] ∧ h = []) ?_ ?_
 refine GoC.loopJ [(120, _), (121, _)] [.one β99 3 1 (row r98), .one β80 43 1 (row l85), .one βd_ 48 8 (st1 (nth [.v (.int .i64 d_.now.net.n), .v (.int .i64 d_.now.net.s), .v (.int .i64 d_.now.net.t), slD d_.now.net.as, slD d_.now.flow, .own βd__1 5 0 d_.old.length, .own βd__2 1 0 d_.names.length, .own βd__3 5 0 d_.saved.length])), .one βd__1 45 5 (row d_.old), .one βd__2 9 1 (row d_.names), .one βd__3 45 5 (row d_.saved)] (fun mQ v h => ∃ (k115 : Nat) (st110 : ByteArray), (k115 + mQ = r98.length ∧ forN (desk_asked_B4 r98) mQ k115 st110 = some st114) ∧ v = [(122, .v (.int .i64 ((k115 : Nat) : Int))), (21, .v (.string st110))] ∧ h = []) r98.length ⟨_, _, ⟨by omega, hl121⟩, rfl, rfl⟩ (Qg rfl (Qg rfl (Qg rfl (Qg rfl (Qy))))) (Qn _ _ _ _ _ Qk (Qr _) (Qn _ _ _ _ _ Qk (Qr _) (Qn _ _ _ _ _ Qk (Jj ⟨⟨⟨⟨⟨⟨⟨⟨Qs, Qb _⟩, Qb _⟩, Qb _⟩, Qb _⟩, Qb _⟩, Qb _⟩, Qb _⟩, Qb _⟩) (Qn _ _ _ _ _ Qk (Qr _) (Qn _ _ _ _ _ Qk (Qr _) (Qn _ _ _ _ _ Qk (Qr _) (Jb _))))))) ?_
 rintro m116 v h ⟨k115, st110, ⟨hkk115, hF112⟩, rfl, rfl⟩
 refine Qj (Qc ?_)
 refine Qa (ps_lss rfl rfl rfl) ?_
 refine Qo (Qe (Qj ?_))
 refine Jc rfl (fun (hk115 : (k115 : Int) < ((r98.length : Nat) : Int)) => ?_) (fun (hk115 : ¬ (k115 : Int) < ((r98.length : Nat) : Int)) => ?_)
 obtain ⟨m116', rfl⟩ : ∃ x, m116 = x + 1 := ⟨m116 - 1, by omega⟩
 have hb := Jd hF112; clear hF112
 obtain ⟨qrm116, H, hF112⟩ := hb
 have hnk115 : k115 < r98.length := by omega
 have hIk115 : InI ((k115 : Int) + 1) := inI_len hk115 ml109
 refine Jg (Qe (Qj (GoC.block (Qj (Qc ?_)))))
 refine Qa (ps_indexAddr0N rfl rfl hnk115 rfl) ?_
 refine Qa (Jf rfl Qw Qw hnk115 rfl rfl) ?_
 refine Qa (Qi rfl rfl) ?_
 refine Qo (Qe (Qc ?_))
 refine Qa (Ql rfl rfl) ?_
 refine Qa (Ql rfl rfl) ?_
 have hb := Jd H; clear H
 obtain ⟨r117, e118, H⟩ := hb
 refine GoO.effC (ef_call rfl (Qm _) (Qm _) (strconv_Itoa_spec (r98.getD k115 (0 : Int)) e118) (Qq (Qp _ _) (Qz)) rfl (strconv_Itoa_I (r117))) (fun rr HH hp => ?_)
 obtain ⟨rfl, rfl⟩ := hp
 have c119 := ck_l H; replace H := ck_r H
 refine Qa (ps_addStr rfl rfl c119 rfl) ?_
 have c120 := ck_l H; replace H := ck_r H
 refine Qa (ps_addStr rfl rfl c120 rfl) ?_
 refine Qa (Qi rfl rfl) ?_
 refine Qo (GoK.blk (Qe (Qc ?_)))
 refine Qa (ps_add rfl rfl rfl hIk115) ?_
 refine Qa (Ql rfl rfl) ?_
 refine Qo ?_
 obtain rfl := Qf H
 exact GoK.againJ m116' (by omega) ⟨_, _, ⟨by omega, hF112⟩, rfl, rfl⟩ (Qg rfl (Qg rfl (Qg rfl (Qg rfl (Qy))))) (Qn _ _ _ _ _ Qk (Qr _) (Qn _ _ _ _ _ Qk (Qr _) (Qn _ _ _ _ _ Qk (Jj ⟨⟨⟨⟨⟨⟨⟨⟨Qs, Qb _⟩, Qb _⟩, Qb _⟩, Qb _⟩, Qb _⟩, Qb _⟩, Qb _⟩, Qb _⟩) (Qn _ _ _ _ _ Qk (Qr _) (Qn _ _ _ _ _ Qk (Qr _) (Qn _ _ _ _ _ Qk (Qr _) (Jb _)))))))
 obtain rfl : m116 = 0 := by omega
 refine GoC.exit rfl ?_
 cases hF112
 exact Jr ⟨rfl, rfl⟩ (Qg rfl (Qy)) (Qn _ _ _ _ _ Qk (Qr _) (Qn _ _ _ _ _ Qk (Qr _) (Qn _ _ _ _ _ Qk (Jj ⟨⟨⟨⟨⟨⟨⟨⟨Qs, Qb _⟩, Qb _⟩, Qb _⟩, Qb _⟩, Qb _⟩, Qb _⟩, Qb _⟩, Qb _⟩) (Qn _ _ _ _ _ Qk (Qr _) (Qn _ _ _ _ _ Qk (Qr _) (Qn _ _ _ _ _ Qk (Qr _) (Jb _)))))))
 rintro v h ⟨rfl, rfl⟩
 have H := HK111; clear HK111
 refine Qe (Qj (Qc ?_))
 refine Qa (Ql rfl rfl) ?_
 have c122 := ck_l H; replace H := ck_r H
 refine Qa (ps_addStr rfl rfl c122 rfl) ?_
 refine Qa (Qi rfl rfl) ?_
 refine Qo (Qe ?_)
 obtain rfl := Qf H
 exact GoC.retLT (ds := [.v (.string (st114 ++ (⟨#[46]⟩ : ByteArray)))]) Tryd.results20 (Qt (Qv rfl) (Je)) (Qd _ _ _ _ _ Rem.p2 (Qd _ _ _ _ _ Rem.p2 (Qd _ _ _ _ _ Rem.p2 (Qd _ _ _ _ _ Rem.p2 (Qm _))))) ⟨_, rfl, βd__1, βd__2, βd__3, rfl, rfl⟩
 replace H := Ju h62 H
 refine Jg (GoK.blk (Qe ?_))
 have hb := Jd H; clear H
 obtain ⟨q124, H, HK123⟩ := hb
 refine GoC.seqJ [(0, .rp 1 1 (st1 (nth [.ptr βd_ 8 0 0])).get 0 0), (1, .v (.string word))] [.one βd_ 48 8 (st1 (nth [.v (.int .i64 d_.now.net.n), .v (.int .i64 d_.now.net.s), .v (.int .i64 d_.now.net.t), slD d_.now.net.as, slD d_.now.flow, .own βd__1 5 0 d_.old.length, .own βd__2 1 0 d_.names.length, .own βd__3 5 0 d_.saved.length])), .one βd__1 45 5 (row d_.old), .one βd__2 9 1 (row d_.names), .one βd__3 45 5 (row d_.saved)] (fun v h => q124 = .go () ∧ v = [] ∧ h = []) ?_ ?_
 refine Qj (Qc ?_)
 refine Qa (Ql rfl rfl) ?_
 refine Qa (ps_len rfl (by constructor) rfl) ?_
 refine GoO.lenLe (n := l.length) (x := .tmp 134) rfl (by constructor) sl_lenLe (fun ml125 => ?_)
 refine Qa (ps_gtr rfl rfl rfl) ?_
 refine Qo (Qe ?_)
 refine Jc rfl (fun h126 => ?_) (fun h126 => ?_)
 replace H := Jt h126 H
 refine Qc ?_
 have hb := Jd H; clear H
 obtain ⟨q128, e127, H⟩ := hb
 refine GoO.callT false rfl (Qm _) (Qm _) (desk_must_spec 12 e127) (Qq (Qp _ _) (Qz)) rfl ⟨IndepP.ok (fun o => desk_must_I o), IndepP.ex (fun o => desk_must_J o)⟩ (fun rr HH hp => ?_) (fun rr HH hp => ?_)
 obtain ⟨x129, rfl, rfl, rfl⟩ := hp
 replace H := on_ex H
 obtain rfl := Qf H
 obtain rfl := Qf HK123
 exact GoT.ends (Qd _ _ _ _ _ Qk (Qd _ _ _ _ _ Qk (Qd _ _ _ _ _ Qk (Qd _ _ _ _ _ Qk (Qm _))))) ⟨_, rfl, βd__1, βd__2, βd__3, rfl, rfl⟩
 obtain ⟨_, rfl, rfl, rfl⟩ := hp
 replace H := on_ok H
 refine Qo ?_
 obtain rfl := Qf H
 exact Jr ⟨rfl, rfl, rfl⟩ (Jm rfl (DLe.rp1 ⟨Qs, Qb _⟩) (Qg rfl (Qy))) (Qn _ _ _ _ _ Qk (Jj ⟨⟨⟨⟨⟨⟨⟨⟨Qs, Qb _⟩, Qb _⟩, Qb _⟩, Qb _⟩, Qb _⟩, Qb _⟩, Qb _⟩, Qb _⟩) (Qn _ _ _ _ _ Qk (Qr _) (Qn _ _ _ _ _ Qk (Qr _) (Qn _ _ _ _ _ Qk (Qr _) (Jb _)))))
 replace H := Ju h126 H
 refine Jg ?_
 obtain rfl := Qf H
 exact Jr ⟨rfl, rfl, rfl⟩ (Jm rfl (DLe.rp1 ⟨Qs, Qb _⟩) (Qg rfl (Qy))) (Qn _ _ _ _ _ Qk (Jj ⟨⟨⟨⟨⟨⟨⟨⟨Qs, Qb _⟩, Qb _⟩, Qb _⟩, Qb _⟩, Qb _⟩, Qb _⟩, Qb _⟩, Qb _⟩) (Qn _ _ _ _ _ Qk (Qr _) (Qn _ _ _ _ _ Qk (Qr _) (Qn _ _ _ _ _ Qk (Qr _) (Jb _)))))
 rintro v h ⟨rfl, rfl, rfl⟩
 have H := HK123; clear HK123
 refine Qj (Qc ?_)
 refine Qa (Ql rfl rfl) ?_
 refine Qa (Ql rfl rfl) ?_
 have hb := Jd H; clear H
 obtain ⟨q133, e132, H⟩ := hb
 refine GoO.callT true rfl (Qd _ _ _ _ _ Qk (Qd _ _ _ _ _ Qk (Qd _ _ _ _ _ Qk (Qd _ _ _ _ _ Qk (Qm _))))) (Qm _) (desk_bare_spec d_ word βd_ βd__1 βd__2 βd__3 e132) (Qq (Qp _ _) (Qq (Qp _ _) (Qz))) rfl nil_fps (fun rr HH hp => ?_) (fun rr HH hp => ?_)
 obtain ⟨⟨x134, x135⟩, rfl, β136, β137, β138, rfl, rfl⟩ := hp
 replace H := on_ex H
 obtain rfl := Qf H
 exact GoT.ends (Qd _ _ _ _ _ Qk (Qd _ _ _ _ _ Qk (Qd _ _ _ _ _ Qk (Qd _ _ _ _ _ Qk (Qm _))))) ⟨_, rfl, β136, β137, β138, rfl, rfl⟩
 obtain ⟨⟨r130, x131⟩, rfl, β139, β140, β141, rfl, rfl⟩ := hp
 replace H := on_ok H
 refine Qa (Qi rfl rfl) ?_
 refine Qo (Qe ?_)
 obtain rfl := Qf H
 exact GoC.retLT (ds := [.v (.string r130)]) Tryd.results20 (Qt (Qv rfl) (Je)) (Qd _ _ _ _ _ Qk (Qd _ _ _ _ _ Qk (Qd _ _ _ _ _ Qk (Qd _ _ _ _ _ Qk (Qm _))))) ⟨_, rfl, β139, β140, β141, rfl, rfl⟩
def desk_answer_B1 (r1 : (List ByteArray)) : Nat → (List ByteArray) → Option ((List ByteArray)) := fun k11 l6 =>
 if (r1.getD k11 El.d) ≠ (⟨#[]⟩ : ByteArray) then
  ck (l6.length + 1 ≤ 8796093022208) <|
  some (l6 ++ ([(r1.getD k11 El.d)] : List ByteArray))
 else
  some l6
def desk_answer_F (d_ : Store) (line : ByteArray) : Option (ByteArray × Store) :=
 (strings_Split_F line (⟨#[32]⟩ : ByteArray)).bind fun r1 =>
 (forN (desk_answer_B1 r1) r1.length 0 []).bind fun l10 =>
 ((
  if ((l10.length : Nat) : Int) = 0 then
   (desk_must_F 12).bind fun q => q.on (fun x24 =>
    ck (InI x24) <|
    ck ((⟨#[101, 114, 114, 111, 114, 32]⟩ : ByteArray).size + (⟨(Lib.itoa x24).toArray⟩ : ByteArray).size ≤ 9223372036854775807) <|
    some (.ret ((errorText x24), d_))) fun () =>
   some (.go ())
  else
   some (.go ())) : Option (Ex (Unit) (ByteArray × Store))).bind fun q => match q with
 | .go () =>
  ck (0 < l10.length) <|
  ck (1 ≤ l10.length) <|
  (desk_deed_F d_ (l10.getD 0 El.d) (subl l10 1 (l10.length - 1))).bind fun q => q.on (fun (x34, x35) =>
   ck (InI x34) <|
   ck ((⟨#[101, 114, 114, 111, 114, 32]⟩ : ByteArray).size + (⟨(Lib.itoa x34).toArray⟩ : ByteArray).size ≤ 9223372036854775807) <|
   some ((errorText x34), x35)) fun (r29, r30, x31) =>
  if r30 = true then
   some (r29, x31)
  else
   (desk_asked_F x31 (l10.getD 0 El.d) (subl l10 1 (l10.length - 1))).bind fun q => q.on (fun (x49, x50) =>
    ck (InI x49) <|
    ck ((⟨#[101, 114, 114, 111, 114, 32]⟩ : ByteArray).size + (⟨(Lib.itoa x49).toArray⟩ : ByteArray).size ≤ 9223372036854775807) <|
    some ((errorText x49), x50)) fun (r45, x46) =>
   some (r45, x46)
 | .ret x => some x
def desk_answer_P (out : ByteArray × Store) (βd_ : BK) (βd__1 : BK) (βd__2 : BK) (βd__3 : BK) (d : D) (H : List HL) : Prop := ∃ βx1 βx2 βx3 : BK, d = .v (.string out.1) ∧ H = [.one βd_ 48 8 (st1 (nth [.v (.int .i64 out.2.now.net.n), .v (.int .i64 out.2.now.net.s), .v (.int .i64 out.2.now.net.t), slD out.2.now.net.as, slD out.2.now.flow, .own βx1 5 0 out.2.old.length, .own βx2 1 0 out.2.names.length, .own βx3 5 0 out.2.saved.length])), .one βx1 45 5 (row out.2.old), .one βx2 9 1 (row out.2.names), .one βx3 45 5 (row out.2.saved)]
set_option maxRecDepth 100000 in
set_option maxHeartbeats 4000000 in
theorem desk_answer_spec (d_ : Store) (line : ByteArray) (βd_ : BK) (βd__1 : BK) (βd__2 : BK) (βd__3 : BK) {out : ByteArray × Store} (H : desk_answer_F d_ line = some out) : Does Tryd.prog 12 [.rp 1 1 (st1 (nth [.ptr βd_ 8 0 0])).get 0 0, .v (.string line)] [.one βd_ 48 8 (st1 (nth [.v (.int .i64 d_.now.net.n), .v (.int .i64 d_.now.net.s), .v (.int .i64 d_.now.net.t), slD d_.now.net.as, slD d_.now.flow, .own βd__1 5 0 d_.old.length, .own βd__2 1 0 d_.names.length, .own βd__3 5 0 d_.saved.length])), .one βd__1 45 5 (row d_.old), .one βd__2 9 1 (row d_.names), .one βd__3 45 5 (row d_.saved)] (desk_answer_P out βd_ βd__1 βd__2 βd__3) := by
 unfold desk_answer_F at H
 refine answer_intro rfl rfl (Nat.le_refl 2) fun w0 I0 tb0 β4 => ?_
 refine Qj (Qc ?_)
 refine Qa (Qi rfl rfl) ?_
 refine Qo (Qe (Qj (Qj (Qc ?_))))
 refine Qa (Ql rfl rfl) ?_
 have hb := Jd H; clear H
 obtain ⟨r1, e3, H⟩ := hb
 refine GoO.effC (ef_call rfl (Qm _) (Qm _) (strings_Split_spec line (⟨#[32]⟩ : ByteArray) e3) (Qq (Qp _ _) (Qq (Qp _ _) (Qz))) rfl (strings_Split_I (r1))) (fun rr HH hp => ?_)
 obtain ⟨β2, rfl, rfl⟩ := hp
 refine Qa (ps_len rfl (by constructor) rfl) ?_
 refine GoO.lenLe (n := r1.length) (x := .tmp 12) rfl (by constructor) own_lenLe (fun ml4 => ?_)
 refine Qa (Ql rfl rfl) ?_
 refine Qo (Qe ?_)
 have hb := Jd H; clear H
 obtain ⟨l10, hl17, HK7⟩ := hb
 refine GoC.blockJ [(0, .rp 1 1 (st1 (nth [.ptr βd_ 8 0 0])).get 0 0), (4, .ptr β4 1 0 0)] [.one β2 9 1 (row r1), .one β4 9 1 (st1 (nth [.v (.string ByteArray.empty)])), .one βd_ 48 8 (st1 (nth [.v (.int .i64 d_.now.net.n), .v (.int .i64 d_.now.net.s), .v (.int .i64 d_.now.net.t), slD d_.now.net.as, slD d_.now.flow, .own βd__1 5 0 d_.old.length, .own βd__2 1 0 d_.names.length, .own βd__3 5 0 d_.saved.length])), .one βd__1 45 5 (row d_.old), .one βd__2 9 1 (row d_.names), .one βd__3 45 5 (row d_.saved)] (fun v h => ∃ (β5 : BK), v = [(5, .own β5 1 0 l10.length)] ∧ h = [.one β5 9 1 (row l10)]) ?_ ?_
 refine GoC.loopJ [(0, _), (4, _), (12, _), (13, _)] [.one β2 9 1 (row r1), .one β4 9 1 (st1 (nth [.v (.string ByteArray.empty)])), .one βd_ 48 8 (st1 (nth [.v (.int .i64 d_.now.net.n), .v (.int .i64 d_.now.net.s), .v (.int .i64 d_.now.net.t), slD d_.now.net.as, slD d_.now.flow, .own βd__1 5 0 d_.old.length, .own βd__2 1 0 d_.names.length, .own βd__3 5 0 d_.saved.length])), .one βd__1 45 5 (row d_.old), .one βd__2 9 1 (row d_.names), .one βd__3 45 5 (row d_.saved)] (fun mQ v h => ∃ (k11 : Nat) (l6 : (List ByteArray)) (β5 : BK), (k11 + mQ = r1.length ∧ forN (desk_answer_B1 r1) mQ k11 l6 = some l10) ∧ v = [(14, .v (.int .i64 ((k11 : Nat) : Int))), (5, .own β5 1 0 l6.length)] ∧ h = [.one β5 9 1 (row l6)]) r1.length ⟨_, _, ⟨0, 0, 0⟩, ⟨by omega, hl17⟩, rfl, rfl⟩ (Qg rfl (Jm rfl (DLe.nilOwn) (Qg rfl (Qg rfl (Qg rfl (Qg rfl (Qy))))))) (TkD.no _ _ _ _ _ rfl (Qn _ _ _ _ _ Qk (Qr _) (Qn _ _ _ _ _ Qk (Jj ⟨Qs, Qb _⟩) (Qn _ _ _ _ _ Qk (Jj ⟨⟨⟨⟨⟨⟨⟨⟨Qs, Qb _⟩, Qb _⟩, Qb _⟩, Qb _⟩, Qb _⟩, Qb _⟩, Qb _⟩, Qb _⟩) (Qn _ _ _ _ _ Qk (Qr _) (Qn _ _ _ _ _ Qk (Qr _) (Qn _ _ _ _ _ Qk (Qr _) (Jb _)))))))) ?_
 rintro m12 v h ⟨k11, l6, β5, ⟨hkk11, hF8⟩, rfl, rfl⟩
 refine Qj (Qc ?_)
 refine Qa (ps_lss rfl rfl rfl) ?_
 refine Qo (Qe (Qj ?_))
 refine Jc rfl (fun (hk11 : (k11 : Int) < ((r1.length : Nat) : Int)) => ?_) (fun (hk11 : ¬ (k11 : Int) < ((r1.length : Nat) : Int)) => ?_)
 obtain ⟨m12', rfl⟩ : ∃ x, m12 = x + 1 := ⟨m12 - 1, by omega⟩
 have hb := Jd hF8; clear hF8
 obtain ⟨qrm12, H, hF8⟩ := hb
 have hnk11 : k11 < r1.length := by omega
 have hIk11 : InI ((k11 : Int) + 1) := inI_len hk11 ml4
 refine Jg (Qe (Qj (GoC.block (Qj (Qc ?_)))))
 refine Qa (ps_indexAddr0N rfl rfl hnk11 rfl) ?_
 refine Qa (Jf rfl Js Js hnk11 rfl rfl) ?_
 refine Qa (Qi rfl rfl) ?_
 refine Qo (Qe (Qj (Qc ?_)))
 refine Qa (Ql rfl rfl) ?_
 refine Qa (ps_neqStr rfl rfl rfl) ?_
 refine Qo (Qe ?_)
 refine Jc rfl (fun h13 => ?_) (fun h13 => ?_)
 replace H := Jt h13 H
 refine Qc ?_
 refine Qa (Ql rfl rfl) ?_
 refine Qa (Ql rfl rfl) ?_
 refine Jq (ef_buildSlice (row ([(r1.getD k11 El.d)] : List ByteArray)) rfl (Jn _ _ _ _ _ _ _ _ ⟨rfl, rfl⟩ (Part.one _ rfl rfl) rfl rfl (Parts.nil _)) rfl rfl rfl rfl) (fun β14 => ?_)
 have c16 := ck_l H; replace H := ck_r H
 refine Jq (ef_append rfl rfl Jk (Src.own Qw (by first | omega | (simp only [szl]; omega) | (simp only [szl]; done))) (cat_row (α := ByteArray) (by first | rfl | omega | (simp only [szl] <;> first | rfl | omega)) (by first | rfl | omega | (simp only [szl] <;> first | rfl | omega)) (fun _ _ _ _ => rfl)) (by first | omega | (simp only [szl]; omega) | (simp only [szl]; done)) (app_le c16 rfl) rfl rfl rfl) (fun β15 => ?_)
 refine Qa (Qi rfl rfl) ?_
 refine Qo (GoK.blk (Qe (Qc ?_)))
 refine Qa (ps_add rfl rfl rfl hIk11) ?_
 refine Qa (Ql rfl rfl) ?_
 refine Qo ?_
 obtain rfl := Qf H
 exact GoK.againJ m12' (by omega) ⟨_, _, β15, ⟨by omega, hF8⟩, rfl, rfl⟩ (Qg rfl (Jm rfl (Jp (by first | rfl | omega | (simp only [row_len, gridC_len, rowO_len, List.length_append, List.length_cons, List.length_nil] <;> first | rfl | omega))) (Qg rfl (Qg rfl (Qg rfl (Qg rfl (Qy))))))) (Qn _ _ _ _ _ Qk (Qr _) (Qn _ _ _ _ _ Jk (Qr _) (Qn _ _ _ _ _ Jk (Jj ⟨Qs, Qb _⟩) (Qn _ _ _ _ _ Jk (Jj ⟨⟨⟨⟨⟨⟨⟨⟨Qs, Qb _⟩, Qb _⟩, Qb _⟩, Qb _⟩, Qb _⟩, Qb _⟩, Qb _⟩, Qb _⟩) (Qn _ _ _ _ _ Jk (Qr _) (Qn _ _ _ _ _ Jk (Qr _) (Qn _ _ _ _ _ Jk (Qr _) (Jb _))))))))
 replace H := Ju h13 H
 refine Jg (GoK.blk (Qe (Qc ?_)))
 refine Qa (ps_add rfl rfl rfl hIk11) ?_
 refine Qa (Ql rfl rfl) ?_
 refine Qo ?_
 obtain rfl := Qf H
 exact GoK.againJ m12' (by omega) ⟨_, _, β5, ⟨by omega, hF8⟩, rfl, rfl⟩ (Qg rfl (Qg rfl (Qg rfl (Qg rfl (Qg rfl (Qg rfl (Qy))))))) (Qn _ _ _ _ _ Qk (Qr _) (Qn _ _ _ _ _ Qk (Qr _) (Qn _ _ _ _ _ Qk (Jj ⟨Qs, Qb _⟩) (Qn _ _ _ _ _ Qk (Jj ⟨⟨⟨⟨⟨⟨⟨⟨Qs, Qb _⟩, Qb _⟩, Qb _⟩, Qb _⟩, Qb _⟩, Qb _⟩, Qb _⟩, Qb _⟩) (Qn _ _ _ _ _ Qk (Qr _) (Qn _ _ _ _ _ Qk (Qr _) (Qn _ _ _ _ _ Qk (Qr _) (Jb _))))))))
 obtain rfl : m12 = 0 := by omega
 refine GoC.exit rfl ?_
 cases hF8
 exact Jr ⟨β5, rfl, rfl⟩ (Jm rfl (Jp (by first | rfl | omega | (simp only [row_len, gridC_len, rowO_len] <;> first | rfl | omega))) (Jm rfl (DLe.rp1 ⟨Qs, Qb _⟩) (Qg rfl (Qy)))) (Qn _ _ _ _ _ Qk (Qr _) (Qn _ _ _ _ _ Qk (Qr _) (Qn _ _ _ _ _ Qk (Jj ⟨Qs, Qb _⟩) (Qn _ _ _ _ _ Qk (Jj ⟨⟨⟨⟨⟨⟨⟨⟨Qs, Qb _⟩, Qb _⟩, Qb _⟩, Qb _⟩, Qb _⟩, Qb _⟩, Qb _⟩, Qb _⟩) (Qn _ _ _ _ _ Qk (Qr _) (Qn _ _ _ _ _ Qk (Qr _) (Qn _ _ _ _ _ Qk (Qr _) (Jb _))))))))
 rintro v h ⟨β5, rfl, rfl⟩
 have H := HK7; clear HK7
 refine Qe ?_
 have hb := Jd H; clear H
 obtain ⟨q19, H, HK18⟩ := hb
 refine GoC.seqJ [(0, .rp 1 1 (st1 (nth [.ptr βd_ 8 0 0])).get 0 0), (4, .ptr β4 1 0 0)] [.one β2 9 1 (row r1), .one β4 9 1 (st1 (nth [.v (.string ByteArray.empty)])), .one βd_ 48 8 (st1 (nth [.v (.int .i64 d_.now.net.n), .v (.int .i64 d_.now.net.s), .v (.int .i64 d_.now.net.t), slD d_.now.net.as, slD d_.now.flow, .own βd__1 5 0 d_.old.length, .own βd__2 1 0 d_.names.length, .own βd__3 5 0 d_.saved.length])), .one βd__1 45 5 (row d_.old), .one βd__2 9 1 (row d_.names), .one βd__3 45 5 (row d_.saved)] (fun v h => q19 = .go () ∧ v = [(5, slD l10)] ∧ h = []) ?_ ?_
 refine Qj (Qc ?_)
 refine GoO.freezeS (j := 5) rfl Qk (Lend.all' Qw (by first | rfl | omega | (simp only [row_len, gridC_len, rowO_len] <;> first | rfl | omega)) rfl) (Qd _ _ _ _ _ Rem.p2 (Qd _ _ _ _ _ Rem.p2 (Qd _ _ _ _ _ Rem.p2 (Qd _ _ _ _ _ Rem.p2 (Qm _))))) ?_
 refine Qa (Ql rfl rfl) ?_
 refine Qa (ps_len rfl (by constructor) rfl) ?_
 refine GoO.lenLe (n := l10.length) (x := .tmp 25) rfl (by constructor) sl_lenLe (fun ml20 => ?_)
 refine Qa (ps_eql rfl rfl rfl) ?_
 refine Qo (Qe ?_)
 refine Jc rfl (fun h21 => ?_) (fun h21 => ?_)
 replace H := Jt h21 H
 refine Qc ?_
 have hb := Jd H; clear H
 obtain ⟨q23, e22, H⟩ := hb
 refine GoO.callT false rfl (Qm _) (Qm _) (desk_must_spec 12 e22) (Qq (Qp _ _) (Qz)) rfl ⟨IndepP.ok (fun o => desk_must_I o), IndepP.ex (fun o => desk_must_J o)⟩ (fun rr HH hp => ?_) (fun rr HH hp => ?_)
 obtain ⟨x24, rfl, rfl, rfl⟩ := hp
 replace H := on_ex H
 have c25 := ck_l H; replace H := ck_r H
 have c26 := ck_l H; replace H := ck_r H
 obtain rfl := Qf H
 obtain rfl := Qf HK18
 exact answer_thr c25 c26 rfl Jk (Qd _ _ _ _ _ Jk (Qd _ _ _ _ _ Jk (Qd _ _ _ _ _ Jk (Qd _ _ _ _ _ Jk (Qm _))))) ⟨βd__1, βd__2, βd__3, rfl, rfl⟩
 obtain ⟨_, rfl, rfl, rfl⟩ := hp
 replace H := on_ok H
 refine Qo ?_
 obtain rfl := Qf H
 exact Jr ⟨rfl, rfl, rfl⟩ (Qg rfl (Jm rfl (DLe.rp1 ⟨Qs, Qb _⟩) (Qg rfl (Qy)))) (Qn _ _ _ _ _ Qk (Qr _) (Qn _ _ _ _ _ Qk (Jj ⟨Qs, Qb _⟩) (Qn _ _ _ _ _ Qk (Jj ⟨⟨⟨⟨⟨⟨⟨⟨Qs, Qb _⟩, Qb _⟩, Qb _⟩, Qb _⟩, Qb _⟩, Qb _⟩, Qb _⟩, Qb _⟩) (Qn _ _ _ _ _ Qk (Qr _) (Qn _ _ _ _ _ Qk (Qr _) (Qn _ _ _ _ _ Qk (Qr _) (Jb _)))))))
 replace H := Ju h21 H
 refine Jg ?_
 obtain rfl := Qf H
 exact Jr ⟨rfl, rfl, rfl⟩ (Qg rfl (Jm rfl (DLe.rp1 ⟨Qs, Qb _⟩) (Qg rfl (Qy)))) (Qn _ _ _ _ _ Qk (Qr _) (Qn _ _ _ _ _ Qk (Jj ⟨Qs, Qb _⟩) (Qn _ _ _ _ _ Qk (Jj ⟨⟨⟨⟨⟨⟨⟨⟨Qs, Qb _⟩, Qb _⟩, Qb _⟩, Qb _⟩, Qb _⟩, Qb _⟩, Qb _⟩, Qb _⟩) (Qn _ _ _ _ _ Qk (Qr _) (Qn _ _ _ _ _ Qk (Qr _) (Qn _ _ _ _ _ Qk (Qr _) (Jb _)))))))
 rintro v h ⟨rfl, rfl, rfl⟩
 have H := HK18; clear HK18
 refine Qj (Qj ?_)
 refine GoC.drawQ (.q 0 (.q 1 (.q 2 (.q 3 (.q 4 (.q 5 (.one 6 (.q 7 (.q 8 (.q 9 (.q 10 (.q 11 (.done))))))))))))) 6 follows (by kernel_rfl) ?_
 refine Jo rfl rfl (Ql rfl rfl) ?_
 refine Jo rfl rfl (Ql rfl rfl) ?_
 have c27 := ck_l H; replace H := ck_r H
 refine Jo rfl rfl (ps_indexAddrRN (i := 0) rfl rfl c27 rfl) ?_
 refine Jo rfl rfl (ps_loadR rfl c27 rfl rfl) ?_
 refine Jo rfl rfl (Ql rfl rfl) ?_
 have c28 := ck_l H; replace H := ck_r H
 refine Jo rfl rfl (ps_sliceR rfl (Bd.nat _ _ 1 _ rfl) (Bd.no _) c28 (Nat.le_refl _) rfl) ?_
 refine GoQ.le (Le.re 35 rfl (DLe.part (xs := l10) (r := 1) (len := l10.length - 1) (by have := c28; first | omega | (simp only [szl]; omega)))) ?_
 have hb := Jd H; clear H
 obtain ⟨q33, e32, H⟩ := hb
 refine GoQ.lastT rfl Qs (ef_callT true rfl (Qd _ _ _ _ _ Rem.p2 (Qd _ _ _ _ _ Rem.p2 (Qd _ _ _ _ _ Rem.p2 (Qd _ _ _ _ _ Rem.p2 (Qm _))))) (Qm _) (desk_deed_spec d_ (l10.getD 0 El.d) (subl l10 1 (l10.length - 1)) βd_ βd__1 βd__2 βd__3 e32) (Qq (Qp _ _) (Qq (Qp _ _) (Qq (Qp _ _) (Qz)))) rfl nil_fps (fun rr HH hp => ?_)) (Qd _ _ _ _ _ Rem.p2 (Qd _ _ _ _ _ Rem.p2 (Qd _ _ _ _ _ Rem.p2 (Qd _ _ _ _ _ Rem.p2 (Qm _))))) (fun rr HH hp => ?_)
 obtain ⟨⟨x34, x35⟩, rfl, β36, β37, β38, rfl, rfl⟩ := hp
 replace H := on_ex H
 have c42 := ck_l H; replace H := ck_r H
 have c43 := ck_l H; replace H := ck_r H
 obtain rfl := Qf H
 exact answer_thr c42 c43 rfl Rem.p5 (Qd _ _ _ _ _ Qk (Qd _ _ _ _ _ Qk (Qd _ _ _ _ _ Qk (Qd _ _ _ _ _ Qk (Qm _))))) ⟨β36, β37, β38, rfl, rfl⟩
 obtain ⟨⟨r29, r30, x31⟩, rfl, β39, β40, β41, rfl, rfl⟩ := hp
 replace H := on_ok H
 refine Qx rfl (Ql rfl rfl) ?_
 refine Qx rfl (Ji rfl rfl rfl) ?_
 refine Qx rfl (Ji rfl rfl rfl) ?_
 refine Qx rfl (Qi rfl rfl) ?_
 refine Qx rfl (Qi rfl rfl) ?_
 refine GoP.done ?_
 refine Qe (Qj (Qc ?_))
 refine Qa (Ql rfl rfl) ?_
 refine Qo (Qe ?_)
 refine GoC.cond rfl (fun h44 => ?_) (fun h44 => ?_)
 replace H := itb_t h44 H
 refine Qj (Qc ?_)
 refine Qa (Ql rfl rfl) ?_
 refine GoO.eff1 (ef_store rfl rfl rfl At.p5 upd_st1 Qh rfl) ?_
 refine Qo (Qe ?_)
 obtain rfl := Qf H
 refine GoC.le (Le.reH At.p5 (Jj (g' := nth [.v (.string r29)]) ⟨Qs, Qb _⟩)) ?_
 exact answer_ret rfl At.p5 (Qd _ _ _ _ _ Qk (Qd _ _ _ _ _ Qk (Qd _ _ _ _ _ Qk (Qd _ _ _ _ _ Qk (Qm _))))) ⟨β39, β40, β41, rfl, rfl⟩
 replace H := itb_f h44 H
 refine Jg (Qe (Qj ?_))
 refine GoC.drawQ (.q 0 (.q 1 (.q 2 (.q 3 (.q 4 (.q 5 (.one 6 (.one 7 (.done))))))))) 6 follows (by kernel_rfl) ?_
 refine Jo rfl rfl (Ql rfl rfl) ?_
 refine Jo rfl rfl (Ql rfl rfl) ?_
 refine Jo rfl rfl (ps_indexAddrRN (i := 0) rfl rfl c27 rfl) ?_
 refine Jo rfl rfl (ps_loadR rfl c27 rfl rfl) ?_
 refine Jo rfl rfl (Ql rfl rfl) ?_
 refine Jo rfl rfl (ps_sliceR rfl (Bd.nat _ _ 1 _ rfl) (Bd.no _) c28 (Nat.le_refl _) rfl) ?_
 refine GoQ.le (Le.re 46 rfl (DLe.part (xs := l10) (r := 1) (len := l10.length - 1) (by have := c28; first | omega | (simp only [szl]; omega)))) ?_
 have hb := Jd H; clear H
 obtain ⟨q48, e47, H⟩ := hb
 refine GoQ.lastT rfl Qs (ef_callT true rfl (Qd _ _ _ _ _ Qk (Qd _ _ _ _ _ Qk (Qd _ _ _ _ _ Qk (Qd _ _ _ _ _ Qk (Qm _))))) (Qm _) (desk_asked_spec x31 (l10.getD 0 El.d) (subl l10 1 (l10.length - 1)) βd_ β39 β40 β41 e47) (Qq (Qp _ _) (Qq (Qp _ _) (Qq (Qp _ _) (Qz)))) rfl nil_fps (fun rr HH hp => ?_)) (Qd _ _ _ _ _ Qk (Qd _ _ _ _ _ Qk (Qd _ _ _ _ _ Qk (Qd _ _ _ _ _ Qk (Qm _))))) (fun rr HH hp => ?_)
 obtain ⟨⟨x49, x50⟩, rfl, β51, β52, β53, rfl, rfl⟩ := hp
 replace H := on_ex H
 have c57 := ck_l H; replace H := ck_r H
 have c58 := ck_l H; replace H := ck_r H
 obtain rfl := Qf H
 exact answer_thr c57 c58 rfl Rem.p5 (Qd _ _ _ _ _ Qk (Qd _ _ _ _ _ Qk (Qd _ _ _ _ _ Qk (Qd _ _ _ _ _ Qk (Qm _))))) ⟨β51, β52, β53, rfl, rfl⟩
 obtain ⟨⟨r45, x46⟩, rfl, β54, β55, β56, rfl, rfl⟩ := hp
 replace H := on_ok H
 refine GoP.one1 rfl Qs (ef_store rfl rfl rfl At.p5 upd_st1 Qh rfl) (Qd _ _ _ _ _ Rem.p5 (Qm _)) ?_
 refine GoP.done ?_
 refine Qe ?_
 obtain rfl := Qf H
 refine GoC.le (Le.reH At.p5 (Jj (g' := nth [.v (.string r45)]) ⟨Qs, Qb _⟩)) ?_
 exact answer_ret rfl At.p5 (Qd _ _ _ _ _ Qk (Qd _ _ _ _ _ Qk (Qd _ _ _ _ _ Qk (Qd _ _ _ _ _ Qk (Qm _))))) ⟨β54, β55, β56, rfl, rfl⟩
def desk_Run_B1 (r1 : (List ByteArray)) : Nat → (Store × (List ByteArray)) → Option (Store × (List ByteArray)) := fun k25 (z14, l19) =>
 if (r1.getD k25 El.d) ≠ (⟨#[]⟩ : ByteArray) then
  (desk_answer_F z14 (r1.getD k25 El.d)).bind fun (r28, x29) =>
  ck (l19.length + 1 ≤ 8796093022208) <|
  some (x29, (l19 ++ ([r28] : List ByteArray)))
 else
  some (z14, l19)
def desk_Run_F (script : ByteArray) : Option ((List ByteArray) × Int) :=
 (strings_Split_F script (⟨#[10]⟩ : ByteArray)).bind fun r1 =>
 if 4096 < ((script.size : Nat) : Int) then
  some ([], 2)
 else
  if 60 < ((r1.length : Nat) : Int) then
   some ([], 2)
  else
   (store_New_F).bind fun r7 =>
   (forN (desk_Run_B1 r1) r1.length 0 (r7, [])).bind fun (z23, l24) =>
   some (l24, 0)
def desk_Run_P (out : (List ByteArray) × Int) (d : D) (H : List HL) : Prop := ∃ β1 : BK, d = .tp 2 (nth [.own β1 1 0 out.1.length, .v (.int .i64 out.2)]) ∧ H = [.one β1 9 1 (row out.1)]
theorem desk_Run_I (out : (List ByteArray) × Int) : IndepP (desk_Run_P out) := IndepP.of (by rintro _ _ ⟨β1, rfl, rfl⟩; exact ⟨inferInstance, inferInstance⟩)
set_option maxRecDepth 100000 in
set_option maxHeartbeats 4000000 in
theorem desk_Run_spec (script : ByteArray) {out : (List ByteArray) × Int} (H : desk_Run_F script = some out) : Does Tryd.prog 5 [.v (.string script)] [] (desk_Run_P out) := by
 unfold desk_Run_F at H
 refine Does.intro Tryd.func5 rfl Tryd.ntmps5 rfl fun w0 I0 tb0 => ?_
 refine Qj (Qc ?_)
 refine Qa (Qi rfl rfl) ?_
 refine Qa (Qi rfl rfl) ?_
 refine Qo (Qe (Qj (Qc ?_)))
 refine Qa (Ql rfl rfl) ?_
 have hb := Jd H; clear H
 obtain ⟨r1, e3, H⟩ := hb
 refine GoO.effC (ef_call rfl (Qm _) (Qm _) (strings_Split_spec script (⟨#[10]⟩ : ByteArray) e3) (Qq (Qp _ _) (Qq (Qp _ _) (Qz))) rfl (strings_Split_I (r1))) (fun rr HH hp => ?_)
 obtain ⟨β2, rfl, rfl⟩ := hp
 refine Qa (Qi rfl rfl) ?_
 refine Qo (Qe (Qj (Qj (Qc ?_))))
 refine Qa (Ql rfl rfl) ?_
 refine Qa (ps_lenS rfl rfl) ?_
 refine Qa (ps_gtr rfl rfl rfl) ?_
 refine Qa (Ql rfl rfl) ?_
 refine GoO.guardE rfl rfl rfl rfl (fun h4 => ?_) (fun h4 => ?_)
 replace H := Ju h4 H
 refine Qa (Ql rfl rfl) ?_
 refine Jl rfl rfl rfl ?_
 refine Qa (ps_len rfl (by constructor) rfl) ?_
 refine GoO.lenLe (n := r1.length) (x := .tmp 15) rfl (by constructor) own_lenLe (fun ml5 => ?_)
 refine Jl rfl rfl rfl ?_
 refine Qa (ps_gtr rfl rfl rfl) ?_
 refine Qa (ps_pickF rfl rfl rfl) ?_
 refine Qo (Qe ?_)
 refine Jc rfl (fun h6 => ?_) (fun h6 => ?_)
 replace H := Jt h6 H
 refine Qj (Qc ?_)
 refine Qa (Qi rfl rfl) ?_
 refine Qa (Qi rfl rfl) ?_
 refine Qo (Qe ?_)
 obtain rfl := Qf H
 refine GoC.le (le_row0 9 1 (row ([] : List ByteArray)) rfl) ?_
 exact Jh (ds := [.own ⟨0, 0, 0⟩ 1 0 0, .v (.int .i64 2)]) Tryd.results5 (Qt (ResD.le (Qv rfl) (by exact DLe.nilOwn)) (Qt (Qv rfl) (Je))) (Qd _ _ _ _ _ Qk (Qm _)) ⟨⟨0, 0, 0⟩, rfl, rfl⟩
 replace H := Ju h6 H
 refine Jg (Qe (Qj (Qc ?_)))
 have hb := Jd H; clear H
 obtain ⟨r7, e12, H⟩ := hb
 refine GoO.callF rfl (Qm _) (Qm _) (store_New_spec e12) (Qz) rfl nil_fps (fun rr HH hp => ?_)
 obtain ⟨β8, β9, β10, β11, rfl, rfl⟩ := hp
 refine Qa (ps_build (Jn _ _ _ _ _ _ _ _ FdP.of (Part.one _ rfl rfl) rfl rfl (Parts.nil _)) rfl) ?_
 refine Jq (ef_boxAg rfl rfl) (fun β13 => ?_)
 refine Qa (Qi rfl rfl) ?_
 refine GoO.freezeJ (j := 5) (r' := .rp 1 1 (st1 (nth [.ptr β8 8 0 0])).get 0 0) rfl Qk (Lend.box (ds := [.ptr β8 8 0 0]) Qw rfl (by decide) ⟨Qs, rfl⟩ (Qq (Qp _ _) (Qz)) ⟨Qs, rfl⟩ rfl) no_fps ?_
 refine Qo (Qe (Qj (Qc ?_)))
 refine Qa (Qi rfl rfl) ?_
 refine Qo (Qe (Qj (Qj (Qc ?_))))
 refine Qa (Ql rfl rfl) ?_
 refine Qa (ps_len rfl (by constructor) rfl) ?_
 refine Qa (Ql rfl rfl) ?_
 refine Qo (Qe ?_)
 have hb := Jd H; clear H
 obtain ⟨⟨z23, l24⟩, hl37, HK20⟩ := hb
 refine GoC.blockJ [] [.one β2 9 1 (row r1)] (fun v h => ∃ (β15 : BK) (β16 : BK) (β17 : BK) (β18 : BK), v = [(6, .own β18 1 0 l24.length)] ∧ h = [.one β8 48 8 (st1 (nth [.v (.int .i64 z23.now.net.n), .v (.int .i64 z23.now.net.s), .v (.int .i64 z23.now.net.t), slD z23.now.net.as, slD z23.now.flow, .own β15 5 0 z23.old.length, .own β16 1 0 z23.names.length, .own β17 5 0 z23.saved.length])), .one β15 45 5 (row z23.old), .one β16 9 1 (row z23.names), .one β17 45 5 (row z23.saved), .one β18 9 1 (row l24)]) ?_ ?_
 refine GoC.loopJ [(22, _), (23, _)] [.one β2 9 1 (row r1)] (fun mQ v h => ∃ (k25 : Nat) (z14 : Store) (l19 : (List ByteArray)) (β15 : BK) (β16 : BK) (β17 : BK) (β18 : BK), (k25 + mQ = r1.length ∧ forN (desk_Run_B1 r1) mQ k25 (z14, l19) = some (z23, l24)) ∧ v = [(24, .v (.int .i64 ((k25 : Nat) : Int))), (5, .rp 1 1 (st1 (nth [.ptr β8 8 0 0])).get 0 0), (6, .own β18 1 0 l19.length)] ∧ h = [.one β8 48 8 (st1 (nth [.v (.int .i64 z14.now.net.n), .v (.int .i64 z14.now.net.s), .v (.int .i64 z14.now.net.t), slD z14.now.net.as, slD z14.now.flow, .own β15 5 0 z14.old.length, .own β16 1 0 z14.names.length, .own β17 5 0 z14.saved.length])), .one β15 45 5 (row z14.old), .one β16 9 1 (row z14.names), .one β17 45 5 (row z14.saved), .one β18 9 1 (row l19)]) r1.length ⟨_, _, _, β9, β10, β11, ⟨0, 0, 0⟩, ⟨by omega, hl37⟩, rfl, rfl⟩ (Qg rfl (Jm rfl (DLe.rp1 ⟨Qs, Qb _⟩) (Jm rfl (DLe.nilOwn) (Qg rfl (Qg rfl (Qy)))))) (Qn _ _ _ _ _ Qk (Jj ⟨⟨⟨⟨⟨⟨⟨⟨Qs, Qb _⟩, Qb _⟩, Qb _⟩, Qb _⟩, Qb _⟩, Jp (by first | rfl | omega | (simp only [row_len, gridC_len, rowO_len] <;> first | rfl | omega))⟩, Jp (by first | rfl | omega | (simp only [row_len, gridC_len, rowO_len] <;> first | rfl | omega))⟩, Jp (by first | rfl | omega | (simp only [row_len, gridC_len, rowO_len] <;> first | rfl | omega))⟩) (Qn _ _ _ _ _ Qk (Qr _) (Qn _ _ _ _ _ Qk (Qr _) (Qn _ _ _ _ _ Qk (Qr _) (TkD.no _ _ _ _ _ rfl (Qn _ _ _ _ _ Qk (Qr _) (Jb _))))))) ?_
 rintro m26 v h ⟨k25, z14, l19, β15, β16, β17, β18, ⟨hkk25, hF21⟩, rfl, rfl⟩
 refine Qj (Qc ?_)
 refine Qa (ps_lss rfl rfl rfl) ?_
 refine Qo (Qe (Qj ?_))
 refine Jc rfl (fun (hk25 : (k25 : Int) < ((r1.length : Nat) : Int)) => ?_) (fun (hk25 : ¬ (k25 : Int) < ((r1.length : Nat) : Int)) => ?_)
 obtain ⟨m26', rfl⟩ : ∃ x, m26 = x + 1 := ⟨m26 - 1, by omega⟩
 have hb := Jd hF21; clear hF21
 obtain ⟨qrm26, H, hF21⟩ := hb
 have hnk25 : k25 < r1.length := by omega
 have hIk25 : InI ((k25 : Int) + 1) := inI_len hk25 ml5
 refine Jg (Qe (Qj (GoC.block (Qj (Qc ?_)))))
 refine Qa (ps_indexAddr0N rfl rfl hnk25 rfl) ?_
 refine Qa (Jf rfl At.p5 At.p5 hnk25 rfl rfl) ?_
 refine Qa (Qi rfl rfl) ?_
 refine Qo (Qe (Qj (Qc ?_)))
 refine Qa (Ql rfl rfl) ?_
 refine Qa (ps_neqStr rfl rfl rfl) ?_
 refine Qo (Qe ?_)
 refine Jc rfl (fun h27 => ?_) (fun h27 => ?_)
 replace H := Jt h27 H
 refine Qc ?_
 refine Qa (Ql rfl rfl) ?_
 refine Qa (Ql rfl rfl) ?_
 refine Qa (Ql rfl rfl) ?_
 have hb := Jd H; clear H
 obtain ⟨⟨r28, x29⟩, e30, H⟩ := hb
 refine GoO.callF rfl (Qd _ _ _ _ _ Qk (Qd _ _ _ _ _ Qk (Qd _ _ _ _ _ Qk (Qd _ _ _ _ _ Qk (Qm _))))) (Qm _) (desk_answer_spec z14 (r1.getD k25 El.d) β8 β15 β16 β17 e30) (Qq (Qp _ _) (Qq (Qp _ _) (Qz))) rfl nil_fps (fun rr HH hp => ?_)
 obtain ⟨β31, β32, β33, rfl, rfl⟩ := hp
 refine Jq (ef_buildSlice (row ([r28] : List ByteArray)) rfl (Jn _ _ _ _ _ _ _ _ ⟨rfl, rfl⟩ (Part.one _ rfl rfl) rfl rfl (Parts.nil _)) rfl rfl rfl rfl) (fun β34 => ?_)
 have c36 := ck_l H; replace H := ck_r H
 refine Jq (ef_append rfl rfl Rem.p5 (Src.own Qw (by first | omega | (simp only [szl]; omega) | (simp only [szl]; done))) (cat_row (α := ByteArray) (by first | rfl | omega | (simp only [szl] <;> first | rfl | omega)) (by first | rfl | omega | (simp only [szl] <;> first | rfl | omega)) (fun _ _ _ _ => rfl)) (by first | omega | (simp only [szl]; omega) | (simp only [szl]; done)) (app_le c36 rfl) rfl rfl rfl) (fun β35 => ?_)
 refine Qa (Qi rfl rfl) ?_
 refine Qo (GoK.blk (Qe (Qc ?_)))
 refine Qa (ps_add rfl rfl rfl hIk25) ?_
 refine Qa (Ql rfl rfl) ?_
 refine Qo ?_
 obtain rfl := Qf H
 exact GoK.againJ m26' (by omega) ⟨_, _, _, β31, β32, β33, β35, ⟨by omega, hF21⟩, rfl, rfl⟩ (Qg rfl (Jm rfl (DLe.rp1 ⟨Qs, Qb _⟩) (Jm rfl (Jp (by first | rfl | omega | (simp only [row_len, gridC_len, rowO_len, List.length_append, List.length_cons, List.length_nil] <;> first | rfl | omega))) (Qg rfl (Qg rfl (Qy)))))) (Qn _ _ _ _ _ Rem.p2 (Jj ⟨⟨⟨⟨⟨⟨⟨⟨Qs, Qb _⟩, Qb _⟩, Qb _⟩, Qb _⟩, Qb _⟩, Jp (by first | rfl | omega | (simp only [row_len, gridC_len, rowO_len] <;> first | rfl | omega))⟩, Jp (by first | rfl | omega | (simp only [row_len, gridC_len, rowO_len] <;> first | rfl | omega))⟩, Jp (by first | rfl | omega | (simp only [row_len, gridC_len, rowO_len] <;> first | rfl | omega))⟩) (Qn _ _ _ _ _ Rem.p2 (Qr _) (Qn _ _ _ _ _ Rem.p2 (Qr _) (Qn _ _ _ _ _ Rem.p2 (Qr _) (Qn _ _ _ _ _ Qk (Qr _) (Qn _ _ _ _ _ Jk (Qr _) (Jb _)))))))
 replace H := Ju h27 H
 refine Jg (GoK.blk (Qe (Qc ?_)))
 refine Qa (ps_add rfl rfl rfl hIk25) ?_
 refine Qa (Ql rfl rfl) ?_
 refine Qo ?_
 obtain rfl := Qf H
 exact GoK.againJ m26' (by omega) ⟨_, _, _, β15, β16, β17, β18, ⟨by omega, hF21⟩, rfl, rfl⟩ (Qg rfl (Jm rfl (DLe.rp1 ⟨Qs, Qb _⟩) (Qg rfl (Qg rfl (Qg rfl (Qy)))))) (Qn _ _ _ _ _ Qk (Jj ⟨⟨⟨⟨⟨⟨⟨⟨Qs, Qb _⟩, Qb _⟩, Qb _⟩, Qb _⟩, Qb _⟩, Qb _⟩, Qb _⟩, Qb _⟩) (Qn _ _ _ _ _ Qk (Qr _) (Qn _ _ _ _ _ Qk (Qr _) (Qn _ _ _ _ _ Qk (Qr _) (Qn _ _ _ _ _ Qk (Qr _) (Qn _ _ _ _ _ Qk (Qr _) (Jb _)))))))
 obtain rfl : m26 = 0 := by omega
 refine GoC.exit rfl ?_
 cases hF21
 exact Jr ⟨β15, β16, β17, β18, rfl, rfl⟩ (Jm rfl (Jp (by first | rfl | omega | (simp only [row_len, gridC_len, rowO_len] <;> first | rfl | omega))) (Qy)) (Qn _ _ _ _ _ Qk (Jj ⟨⟨⟨⟨⟨⟨⟨⟨Qs, Qb _⟩, Qb _⟩, Qb _⟩, Qb _⟩, Qb _⟩, Jp (by first | rfl | omega | (simp only [row_len, gridC_len, rowO_len] <;> first | rfl | omega))⟩, Jp (by first | rfl | omega | (simp only [row_len, gridC_len, rowO_len] <;> first | rfl | omega))⟩, Jp (by first | rfl | omega | (simp only [row_len, gridC_len, rowO_len] <;> first | rfl | omega))⟩) (Qn _ _ _ _ _ Qk (Qr _) (Qn _ _ _ _ _ Qk (Qr _) (Qn _ _ _ _ _ Qk (Qr _) (Qn _ _ _ _ _ Qk (Qr _) (Qn _ _ _ _ _ Qk (Qr _) (Jb _)))))))
 rintro v h ⟨β15, β16, β17, β18, rfl, rfl⟩
 have H := HK20; clear HK20
 refine Qe (Qj (Qc ?_))
 refine Qa (Ql rfl rfl) ?_
 refine Qa (Qi rfl rfl) ?_
 refine Qa (Qi rfl rfl) ?_
 refine Qo (Qe ?_)
 obtain rfl := Qf H
 exact Jh (ds := [.own β18 1 0 l24.length, .v (.int .i64 0)]) Tryd.results5 (Qt (Qv rfl) (Qt (Qv rfl) (Je))) (Qd _ _ _ _ _ Rem.p4 (Qm _)) ⟨β18, rfl, rfl⟩
 replace H := Jt h4 H
 refine Ja rfl rfl rfl rfl ?_
 refine Ja rfl rfl rfl rfl ?_
 refine Qa (ps_pickT rfl rfl rfl) ?_
 refine Qo (Qe ?_)
 refine GoC.condT rfl ?_
 refine Qj (Qc ?_)
 refine Qa (Qi rfl rfl) ?_
 refine Qa (Qi rfl rfl) ?_
 refine Qo (Qe ?_)
 obtain rfl := Qf H
 refine GoC.le (le_row0 9 1 (row ([] : List ByteArray)) rfl) ?_
 exact Jh (ds := [.own ⟨0, 0, 0⟩ 1 0 0, .v (.int .i64 2)]) Tryd.results5 (Qt (ResD.le (Qv rfl) (by exact DLe.nilOwn)) (Qt (Qv rfl) (Je))) (Qd _ _ _ _ _ Qk (Qm _)) ⟨⟨0, 0, 0⟩, rfl, rfl⟩
end Go.Proofs.YthchdnemndolbaaDoor
