/- The functions gale.Check, gale.Make, told as plain functions, and that the code does as they say. -/
import Derived.Test.YtlpelkfcmeapiaaTys
import Derived.Test.YtlpelkfcmeapiaaDat
import Derived.Test.YtlpelkfcmeapiaaGslices
namespace Go.Proofs.Ytlpelkfcmeapiaa
open Go Go.Proofs.Ytlpelkfcmeapiaa.Sx
set_option linter.unusedVariables false
set_option linter.unusedSimpArgs false
def gale_Check_B1 (rows : (List Int)) (cols : (List Int)) : Nat → Unit → Option (Ct (Unit) (Int)) := fun k8 _ =>
 if (rows.getD k8 (0 : Int)) < 0 then
  some (.ret 1)
 else
  if ((cols.length : Nat) : Int) < (rows.getD k8 (0 : Int)) then
   some (.ret 1)
  else
   some (.go ())
def gale_Check_B2 (rows : (List Int)) (cols : (List Int)) : Nat → Unit → Option (Ct (Unit) (Int)) := fun k16 _ =>
 if (cols.getD k16 (0 : Int)) < 0 then
  some (.ret 1)
 else
  if ((rows.length : Nat) : Int) < (cols.getD k16 (0 : Int)) then
   some (.ret 1)
  else
   some (.go ())
def gale_Check_F (rows : (List Int)) (cols : (List Int)) : Option (Int) :=
 if 12 < ((rows.length : Nat) : Int) then
  some 2
 else
  if 12 < ((cols.length : Nat) : Int) then
   some 2
  else
   (forC (gale_Check_B1 rows cols) rows.length 0 ()).bind fun q => match q with
   | .go _ =>
    (forC (gale_Check_B2 rows cols) cols.length 0 ()).bind fun q => match q with
    | .go _ =>
     some 0
    | .ret x => some x
   | .ret x => some x
def gale_Check_P (out : Int) (d : D) (H : List HL) : Prop := d = .v (.int .i64 out) ∧ H = []
theorem gale_Check_I (out : Int) : IndepP (gale_Check_P out) := IndepP.of (by rintro _ _ ⟨rfl, rfl⟩; exact ⟨inferInstance, inferInstance⟩)
set_option maxRecDepth 100000 in
set_option maxHeartbeats 4000000 in
theorem gale_Check_spec (rows : (List Int)) (cols : (List Int)) {out : Int} (H : gale_Check_F rows cols = some out) : Does Try.prog 49 [slD rows, slD cols] [] (gale_Check_P out) := by
 unfold gale_Check_F at H
 refine Does.intro Try.func49 rfl Try.ntmps49 rfl fun w0 I0 => ?_
 refine GoC.seq ?_
 refine GoC.region ?_
 refine GoO.pure (ps_assign rfl rfl) ?_
 refine GoO.nil ?_
 refine GoK.code ?_
 refine GoC.seq ?_
 refine GoC.seq ?_
 refine GoC.region ?_
 refine GoO.pure (ps_move rfl rfl) ?_
 refine GoO.pure (ps_len rfl (by constructor) rfl) ?_
 refine GoO.lenLe (n := rows.length) (x := .tmp 9) rfl (by constructor) sl_lenLe (fun ml1 => ?_)
 refine GoO.pure (ps_gtr rfl rfl rfl) ?_
 refine GoO.pure (ps_move rfl rfl) ?_
 refine GoO.guardE rfl rfl rfl rfl (fun h2 => ?_) (fun h2 => ?_)
 replace H := ite_f h2 H
 refine GoO.pure (ps_move rfl rfl) ?_
 refine GoO.guardT rfl rfl rfl ?_
 refine GoO.pure (ps_len rfl (by constructor) rfl) ?_
 refine GoO.lenLe (n := cols.length) (x := .tmp 13) rfl (by constructor) sl_lenLe (fun ml3 => ?_)
 refine GoO.guardT rfl rfl rfl ?_
 refine GoO.pure (ps_gtr rfl rfl rfl) ?_
 refine GoO.pure (ps_pickF rfl rfl rfl) ?_
 refine GoO.nil ?_
 refine GoK.code ?_
 refine GoC.condD rfl (fun h4 => ?_) (fun h4 => ?_)
 replace H := ite_t h4 H
 refine GoC.seq ?_
 refine GoC.region ?_
 refine GoO.pure (ps_assign rfl rfl) ?_
 refine GoO.nil ?_
 refine GoK.code ?_
 obtain rfl := Option.some.inj H
 exact GoC.retL (ds := [.v (.int .i64 2)]) Try.results49 (ResL.cons (ResD.tmp rfl) (ResL.nil)) (Take.nil _) ⟨rfl, rfl⟩
 replace H := ite_f h4 H
 refine GoC.skip ?_
 refine GoK.code ?_
 refine GoC.seq ?_
 refine GoC.seq ?_
 refine GoC.region ?_
 refine GoO.pure (ps_move rfl rfl) ?_
 refine GoO.pure (ps_len rfl (by constructor) rfl) ?_
 refine GoO.pure (ps_move rfl rfl) ?_
 refine GoO.nil ?_
 refine GoK.code ?_
 have hb := bind_l H; clear H
 obtain ⟨q7, hl12, HK5⟩ := hb
 refine GoC.blockJ [(0, slD rows), (1, slD cols)] [] (fun v h => q7 = .go () ∧ v = [] ∧ h = []) ?_ ?_
 refine GoC.loopJ [(0, _), (1, _), (17, _), (18, _)] [] (fun mQ v h => ∃ (k8 : Nat), (k8 + mQ = rows.length ∧ forC (gale_Check_B1 rows cols) mQ k8 () = some q7) ∧ v = [(19, .v (.int .i64 ((k8 : Nat) : Int)))] ∧ h = []) rows.length ⟨_, ⟨by omega, hl12⟩, rfl, rfl⟩ (EnvD.eq rfl (EnvD.eq rfl (EnvD.eq rfl (EnvD.eq rfl (EnvD.eq rfl (EnvD.nil)))))) (TkD.nil _) ?_
 rintro m9 v h ⟨k8, ⟨hkk8, hF6⟩, rfl, rfl⟩
 refine GoC.seq ?_
 refine GoC.region ?_
 refine GoO.pure (ps_lss rfl rfl rfl) ?_
 refine GoO.nil ?_
 refine GoK.code ?_
 refine GoC.seq ?_
 refine GoC.condD rfl (fun (hk8 : (k8 : Int) < ((rows.length : Nat) : Int)) => ?_) (fun (hk8 : ¬ (k8 : Int) < ((rows.length : Nat) : Int)) => ?_)
 obtain ⟨m9', rfl⟩ : ∃ x, m9 = x + 1 := ⟨m9 - 1, by omega⟩
 have hb := bind_l hF6; clear hF6
 obtain ⟨qrm9, H, hF6⟩ := hb
 have hnk8 : k8 < rows.length := by omega
 have hIk8 : InI ((k8 : Int) + 1) := inI_len hk8 ml1
 refine GoC.skip ?_
 refine GoK.code ?_
 refine GoC.seq ?_
 refine GoC.block ?_
 refine GoC.seq ?_
 refine GoC.region ?_
 refine GoO.pure (ps_indexAddrRN rfl rfl hnk8 rfl) ?_
 refine GoO.pure (ps_loadR rfl hnk8 rfl rfl) ?_
 refine GoO.pure (ps_assign rfl rfl) ?_
 refine GoO.nil ?_
 refine GoK.code ?_
 refine GoC.seq ?_
 refine GoC.region ?_
 refine GoO.pure (ps_move rfl rfl) ?_
 refine GoO.pure (ps_lss rfl rfl rfl) ?_
 refine GoO.pure (ps_move rfl rfl) ?_
 refine GoO.guardE rfl rfl rfl rfl (fun h10 => ?_) (fun h10 => ?_)
 replace H := ite_f h10 H
 refine GoO.pure (ps_move rfl rfl) ?_
 refine GoO.guardT rfl rfl rfl ?_
 refine GoO.pure (ps_move rfl rfl) ?_
 refine GoO.guardT rfl rfl rfl ?_
 refine GoO.pure (ps_len rfl (by constructor) rfl) ?_
 refine GoO.guardT rfl rfl rfl ?_
 refine GoO.pure (ps_gtr rfl rfl rfl) ?_
 refine GoO.pure (ps_pickF rfl rfl rfl) ?_
 refine GoO.nil ?_
 refine GoK.code ?_
 refine GoC.condD rfl (fun h11 => ?_) (fun h11 => ?_)
 replace H := ite_t h11 H
 refine GoC.seq ?_
 refine GoC.region ?_
 refine GoO.pure (ps_assign rfl rfl) ?_
 refine GoO.nil ?_
 refine GoK.code ?_
 obtain rfl := Option.some.inj H
 obtain rfl := Option.some.inj hF6
 obtain rfl := Option.some.inj HK5
 exact GoC.retL (ds := [.v (.int .i64 1)]) Try.results49 (ResL.cons (ResD.tmp rfl) (ResL.nil)) (Take.nil _) ⟨rfl, rfl⟩
 replace H := ite_f h11 H
 refine GoC.skip ?_
 refine GoK.blk ?_
 refine GoK.code ?_
 refine GoC.region ?_
 refine GoO.pure (ps_add rfl rfl rfl hIk8) ?_
 refine GoO.pure (ps_move rfl rfl) ?_
 refine GoO.nil ?_
 obtain rfl := Option.some.inj H
 exact GoK.againJ m9' (by omega) ⟨_, ⟨by omega, hF6⟩, rfl, rfl⟩ (EnvD.eq rfl (EnvD.eq rfl (EnvD.eq rfl (EnvD.eq rfl (EnvD.eq rfl (EnvD.nil)))))) (TkD.nil _)
 replace H := ite_t h10 H
 refine GoO.guardF rfl rfl rfl rfl ?_
 refine GoO.guardF rfl rfl rfl rfl ?_
 refine GoO.guardF rfl rfl rfl rfl ?_
 refine GoO.pure (ps_pickT rfl rfl rfl) ?_
 refine GoO.nil ?_
 refine GoK.code ?_
 refine GoC.condT rfl ?_
 refine GoC.seq ?_
 refine GoC.region ?_
 refine GoO.pure (ps_assign rfl rfl) ?_
 refine GoO.nil ?_
 refine GoK.code ?_
 obtain rfl := Option.some.inj H
 obtain rfl := Option.some.inj hF6
 obtain rfl := Option.some.inj HK5
 exact GoC.retL (ds := [.v (.int .i64 1)]) Try.results49 (ResL.cons (ResD.tmp rfl) (ResL.nil)) (Take.nil _) ⟨rfl, rfl⟩
 obtain rfl : m9 = 0 := by omega
 refine GoC.exit rfl ?_
 cases hF6
 exact GoK.meet ⟨rfl, rfl, rfl⟩ (EnvD.eq rfl (EnvD.eq rfl (EnvD.nil))) (TkD.nil _)
 rintro v h ⟨rfl, rfl, rfl⟩
 have H := HK5; clear HK5
 refine GoK.code ?_
 refine GoC.seq ?_
 refine GoC.seq ?_
 refine GoC.region ?_
 refine GoO.pure (ps_move rfl rfl) ?_
 refine GoO.pure (ps_len rfl (by constructor) rfl) ?_
 refine GoO.pure (ps_move rfl rfl) ?_
 refine GoO.nil ?_
 refine GoK.code ?_
 have hb := bind_l H; clear H
 obtain ⟨q15, hl20, HK13⟩ := hb
 refine GoC.blockJ [] [] (fun v h => q15 = .go () ∧ v = [] ∧ h = []) ?_ ?_
 refine GoC.loopJ [(0, _), (32, _), (33, _)] [] (fun mQ v h => ∃ (k16 : Nat), (k16 + mQ = cols.length ∧ forC (gale_Check_B2 rows cols) mQ k16 () = some q15) ∧ v = [(34, .v (.int .i64 ((k16 : Nat) : Int)))] ∧ h = []) cols.length ⟨_, ⟨by omega, hl20⟩, rfl, rfl⟩ (EnvD.eq rfl (EnvD.eq rfl (EnvD.eq rfl (EnvD.eq rfl (EnvD.nil))))) (TkD.nil _) ?_
 rintro m17 v h ⟨k16, ⟨hkk16, hF14⟩, rfl, rfl⟩
 refine GoC.seq ?_
 refine GoC.region ?_
 refine GoO.pure (ps_lss rfl rfl rfl) ?_
 refine GoO.nil ?_
 refine GoK.code ?_
 refine GoC.seq ?_
 refine GoC.condD rfl (fun (hk16 : (k16 : Int) < ((cols.length : Nat) : Int)) => ?_) (fun (hk16 : ¬ (k16 : Int) < ((cols.length : Nat) : Int)) => ?_)
 obtain ⟨m17', rfl⟩ : ∃ x, m17 = x + 1 := ⟨m17 - 1, by omega⟩
 have hb := bind_l hF14; clear hF14
 obtain ⟨qrm17, H, hF14⟩ := hb
 have hnk16 : k16 < cols.length := by omega
 have hIk16 : InI ((k16 : Int) + 1) := inI_len hk16 ml3
 refine GoC.skip ?_
 refine GoK.code ?_
 refine GoC.seq ?_
 refine GoC.block ?_
 refine GoC.seq ?_
 refine GoC.region ?_
 refine GoO.pure (ps_indexAddrRN rfl rfl hnk16 rfl) ?_
 refine GoO.pure (ps_loadR rfl hnk16 rfl rfl) ?_
 refine GoO.pure (ps_assign rfl rfl) ?_
 refine GoO.nil ?_
 refine GoK.code ?_
 refine GoC.seq ?_
 refine GoC.region ?_
 refine GoO.pure (ps_move rfl rfl) ?_
 refine GoO.pure (ps_lss rfl rfl rfl) ?_
 refine GoO.pure (ps_move rfl rfl) ?_
 refine GoO.guardE rfl rfl rfl rfl (fun h18 => ?_) (fun h18 => ?_)
 replace H := ite_f h18 H
 refine GoO.pure (ps_move rfl rfl) ?_
 refine GoO.guardT rfl rfl rfl ?_
 refine GoO.pure (ps_move rfl rfl) ?_
 refine GoO.guardT rfl rfl rfl ?_
 refine GoO.pure (ps_len rfl (by constructor) rfl) ?_
 refine GoO.guardT rfl rfl rfl ?_
 refine GoO.pure (ps_gtr rfl rfl rfl) ?_
 refine GoO.pure (ps_pickF rfl rfl rfl) ?_
 refine GoO.nil ?_
 refine GoK.code ?_
 refine GoC.condD rfl (fun h19 => ?_) (fun h19 => ?_)
 replace H := ite_t h19 H
 refine GoC.seq ?_
 refine GoC.region ?_
 refine GoO.pure (ps_assign rfl rfl) ?_
 refine GoO.nil ?_
 refine GoK.code ?_
 obtain rfl := Option.some.inj H
 obtain rfl := Option.some.inj hF14
 obtain rfl := Option.some.inj HK13
 exact GoC.retL (ds := [.v (.int .i64 1)]) Try.results49 (ResL.cons (ResD.tmp rfl) (ResL.nil)) (Take.nil _) ⟨rfl, rfl⟩
 replace H := ite_f h19 H
 refine GoC.skip ?_
 refine GoK.blk ?_
 refine GoK.code ?_
 refine GoC.region ?_
 refine GoO.pure (ps_add rfl rfl rfl hIk16) ?_
 refine GoO.pure (ps_move rfl rfl) ?_
 refine GoO.nil ?_
 obtain rfl := Option.some.inj H
 exact GoK.againJ m17' (by omega) ⟨_, ⟨by omega, hF14⟩, rfl, rfl⟩ (EnvD.eq rfl (EnvD.eq rfl (EnvD.eq rfl (EnvD.eq rfl (EnvD.nil))))) (TkD.nil _)
 replace H := ite_t h18 H
 refine GoO.guardF rfl rfl rfl rfl ?_
 refine GoO.guardF rfl rfl rfl rfl ?_
 refine GoO.guardF rfl rfl rfl rfl ?_
 refine GoO.pure (ps_pickT rfl rfl rfl) ?_
 refine GoO.nil ?_
 refine GoK.code ?_
 refine GoC.condT rfl ?_
 refine GoC.seq ?_
 refine GoC.region ?_
 refine GoO.pure (ps_assign rfl rfl) ?_
 refine GoO.nil ?_
 refine GoK.code ?_
 obtain rfl := Option.some.inj H
 obtain rfl := Option.some.inj hF14
 obtain rfl := Option.some.inj HK13
 exact GoC.retL (ds := [.v (.int .i64 1)]) Try.results49 (ResL.cons (ResD.tmp rfl) (ResL.nil)) (Take.nil _) ⟨rfl, rfl⟩
 obtain rfl : m17 = 0 := by omega
 refine GoC.exit rfl ?_
 cases hF14
 exact GoK.meet ⟨rfl, rfl, rfl⟩ (EnvD.nil) (TkD.nil _)
 rintro v h ⟨rfl, rfl, rfl⟩
 have H := HK13; clear HK13
 refine GoK.code ?_
 refine GoC.seq ?_
 refine GoC.region ?_
 refine GoO.pure (ps_assign rfl rfl) ?_
 refine GoO.nil ?_
 refine GoK.code ?_
 obtain rfl := Option.some.inj H
 exact GoC.retL (ds := [.v (.int .i64 0)]) Try.results49 (ResL.cons (ResD.tmp rfl) (ResL.nil)) (Take.nil _) ⟨rfl, rfl⟩
 replace H := ite_t h2 H
 refine GoO.guardF rfl rfl rfl rfl ?_
 refine GoO.guardF rfl rfl rfl rfl ?_
 refine GoO.pure (ps_pickT rfl rfl rfl) ?_
 refine GoO.nil ?_
 refine GoK.code ?_
 refine GoC.condT rfl ?_
 refine GoC.seq ?_
 refine GoC.region ?_
 refine GoO.pure (ps_assign rfl rfl) ?_
 refine GoO.nil ?_
 refine GoK.code ?_
 obtain rfl := Option.some.inj H
 exact GoC.retL (ds := [.v (.int .i64 2)]) Try.results49 (ResL.cons (ResD.tmp rfl) (ResL.nil)) (Take.nil _) ⟨rfl, rfl⟩

def gale_Make_c1_F (p0 : Int) (p1 : Int) (c_0 : (List Int)) : Option (Int) :=
 ck (0 ≤ p1 ∧ p1 < ((c_0.length : Nat) : Int)) <|
 ck (0 ≤ p0 ∧ p0 < ((c_0.length : Nat) : Int)) <|
 (cmp_Compare_int_F (c_0.getD p1.toNat (0 : Int)) (c_0.getD p0.toNat (0 : Int))).bind fun r3 =>
 (cmp_Compare_int_F p0 p1).bind fun r5 =>
 (cmp_Or_int_F ([r3, r5] : List Int)).bind fun r8 =>
 some r8
def gale_Make_c1_P (out : Int) (d : D) (H : List HL) : Prop := d = .v (.int .i64 out) ∧ H = []
theorem gale_Make_c1_I (out : Int) : IndepP (gale_Make_c1_P out) := IndepP.of (by rintro _ _ ⟨rfl, rfl⟩; exact ⟨inferInstance, inferInstance⟩)
set_option maxRecDepth 100000 in
set_option maxHeartbeats 4000000 in
theorem gale_Make_c1_spec (p0 : Int) (p1 : Int) (c_0 : (List Int)) {out : Int} (H : gale_Make_c1_F p0 p1 c_0 = some out) : Does Try.prog 51 [.v (.int .i64 p0), .v (.int .i64 p1), .rp 1 1 (row [c_0]).get 0 0] [] (gale_Make_c1_P out) := by
 unfold gale_Make_c1_F at H
 refine Does.intro Try.func51 rfl Try.ntmps51 rfl fun w0 I0 => ?_
 refine GoC.seq ?_
 refine GoC.region ?_
 refine GoO.pure (ps_assign rfl rfl) ?_
 refine GoO.nil ?_
 refine GoK.code ?_
 refine GoC.seq ?_
 refine GoC.drawA (.q 0 (.q 1 (.q 2 (.q 3 (.q 4 (.q 5 (.q 6 (.q 7 (.q 9 (.q 10 (.one 8 (.one 11 (.one 12 (.one 13 (.q 14 (.done)))))))))))))))) follows (by kernel_rfl) ?_
 refine GoP.qN rfl (ps_loadR rfl Nat.zero_lt_one rfl rfl) ?_
 refine GoP.qN rfl (ps_move rfl rfl) ?_
 have c1 := ck_l H; replace H := ck_r H
 refine GoP.qN rfl (ps_indexAddrR rfl rfl c1 rfl) ?_
 refine GoP.qN rfl (ps_loadR rfl (idx_lt c1) rfl rfl) ?_
 refine GoP.qN rfl (ps_loadR rfl Nat.zero_lt_one rfl rfl) ?_
 refine GoP.qN rfl (ps_move rfl rfl) ?_
 have c2 := ck_l H; replace H := ck_r H
 refine GoP.qN rfl (ps_indexAddrR rfl rfl c2 rfl) ?_
 refine GoP.qN rfl (ps_loadR rfl (idx_lt c2) rfl rfl) ?_
 refine GoP.qN rfl (ps_move rfl rfl) ?_
 refine GoP.qN rfl (ps_move rfl rfl) ?_
 have hb := bind_l H; clear H
 obtain ⟨r3, e4, H⟩ := hb
 refine GoP.oneC rfl trivial (ef_call rfl (Take.nil _) (Take.nil _) (cmp_Compare_int_spec (c_0.getD p1.toNat (0 : Int)) (c_0.getD p0.toNat (0 : Int)) e4) (LendL.cons (Lend.refl _ _) (LendL.cons (Lend.refl _ _) (LendL.nil))) rfl (cmp_Compare_int_I (r3))) (Take.nil _) (fun rr HH hp => ?_)
 obtain ⟨rfl, rfl⟩ := hp
 have hb := bind_l H; clear H
 obtain ⟨r5, e6, H⟩ := hb
 refine GoP.oneC rfl trivial (ef_call rfl (Take.nil _) (Take.nil _) (cmp_Compare_int_spec p0 p1 e6) (LendL.cons (Lend.refl _ _) (LendL.cons (Lend.refl _ _) (LendL.nil))) rfl (cmp_Compare_int_I (r5))) (Take.nil _) (fun rr HH hp => ?_)
 obtain ⟨rfl, rfl⟩ := hp
 refine GoP.oneB rfl trivial (ef_buildSlice (row ([r3, r5] : List Int)) rfl (Parts.cons _ _ _ _ _ _ _ _ ⟨rfl, rfl⟩ (Part.one _ rfl rfl) rfl rfl (Parts.cons _ _ _ _ _ _ _ _ ⟨rfl, rfl⟩ (Part.one _ rfl rfl) rfl rfl (Parts.nil _))) rfl rfl rfl rfl) (Take.nil _) (fun β7 => ?_)
 have hb := bind_l H; clear H
 obtain ⟨r8, e9, H⟩ := hb
 refine GoP.oneC rfl trivial (ef_call rfl (Take.nil _) (Take.cons _ _ _ _ _ Rem.p0 (Take.nil _)) (cmp_Or_int_spec ([r3, r5] : List Int) e9) (LendL.cons (Lend.all' At.p0 (by first | rfl | omega | (simp only [subl_length, cpl_length, List.length_set, List.length_append, List.length_cons, List.length_nil, List.length_replicate, row_len] <;> first | rfl | omega)) rfl) (LendL.nil)) rfl (cmp_Or_int_I (r8))) (Take.nil _) (fun rr HH hp => ?_)
 obtain ⟨rfl, rfl⟩ := hp
 refine GoP.qN rfl (ps_assign rfl rfl) ?_
 refine GoP.done ?_
 refine GoK.code ?_
 obtain rfl := Option.some.inj H
 exact GoC.retL (ds := [.v (.int .i64 r8)]) Try.results51 (ResL.cons (ResD.tmp rfl) (ResL.nil)) (Take.nil _) ⟨rfl, rfl⟩

def slices_insertionSortCmpFunc_int_gale_Make_c1_B2 (p1 : Int) (c3_0 : (List Int)) : ((List Int) × Int) → Option (Ct ((List Int) × Int) (Ct ((List Int) × Int) ((List Int)))) := fun (l11, x12) =>
 if p1 < x12 then
  ck (0 ≤ x12 ∧ x12 < ((l11.length : Nat) : Int)) <|
  ck (InI (x12 - 1)) <|
  ck (0 ≤ (x12 - 1) ∧ (x12 - 1) < ((l11.length : Nat) : Int)) <|
  (gale_Make_c1_F (l11.getD x12.toNat (0 : Int)) (l11.getD ((x12 - 1).toNat) (0 : Int)) c3_0).bind fun r23 =>
  if r23 < 0 then
   some (.go (((l11.set x12.toNat (l11.getD ((x12 - 1).toNat) (0 : Int))).set ((x12 - 1).toNat) (l11.getD x12.toNat (0 : Int))), (x12 - 1)))
  else
   some (.brk (l11, x12))
 else
  some (.brk (l11, x12))
def slices_insertionSortCmpFunc_int_gale_Make_c1_B1 (p1 : Int) (p2 : Int) (c3_0 : (List Int)) : ((List Int) × Int) → Option (Ct ((List Int) × Int) ((List Int))) := fun (l2, x3) =>
 if x3 < p2 then
  (loopC (slices_insertionSortCmpFunc_int_gale_Make_c1_B2 p1 c3_0) 1000000 (l2, x3)).bind fun q => match q with
  | .go (l16, x17) =>
   ck (InI (x3 + 1)) <|
   some (.go (l16, (x3 + 1)))
  | .ret x => some x
 else
  some (.brk (l2, x3))
def slices_insertionSortCmpFunc_int_gale_Make_c1_F (p0 : (List Int)) (p1 : Int) (p2 : Int) (c3_0 : (List Int)) : Option ((List Int)) :=
 ck (InI (p1 + 1)) <|
 (loopC (slices_insertionSortCmpFunc_int_gale_Make_c1_B1 p1 p2 c3_0) 1000000 (p0, (p1 + 1))).bind fun q => match q with
 | .go (l7, x8) =>
  some l7
 | .ret x => some x
def slices_insertionSortCmpFunc_int_gale_Make_c1_P (out : (List Int)) (βp0 : BK) (d : D) (H : List HL) : Prop := d = .tp 0 (nth []) ∧ H = [.one βp0 3 1 (row out)]
theorem slices_insertionSortCmpFunc_int_gale_Make_c1_I (out : (List Int)) (βp0 : BK) : IndepP (slices_insertionSortCmpFunc_int_gale_Make_c1_P out βp0) := IndepP.of (by rintro _ _ ⟨rfl, rfl⟩; exact ⟨inferInstance, inferInstance⟩)
set_option maxRecDepth 100000 in
set_option maxHeartbeats 4000000 in
theorem slices_insertionSortCmpFunc_int_gale_Make_c1_spec (p0 : (List Int)) (p1 : Int) (p2 : Int) (c3_0 : (List Int)) (βp0 : BK) {out : (List Int)} (H : slices_insertionSortCmpFunc_int_gale_Make_c1_F p0 p1 p2 c3_0 = some out) : Does Try.prog 92 [.own βp0 1 0 p0.length, .v (.int .i64 p1), .v (.int .i64 p2), .fn 51 1 (nth [.rp 1 1 (row [c3_0]).get 0 0])] [.one βp0 3 1 (row p0)] (slices_insertionSortCmpFunc_int_gale_Make_c1_P out βp0) := by
 unfold slices_insertionSortCmpFunc_int_gale_Make_c1_F at H
 refine Does.intro Try.func92 rfl Try.ntmps92 rfl fun w0 I0 => ?_
 refine GoC.seq ?_
 refine GoC.region ?_
 refine GoO.pure (ps_move rfl rfl) ?_
 have c1 := ck_l H; replace H := ck_r H
 refine GoO.pure (ps_add rfl rfl rfl c1) ?_
 refine GoO.pure (ps_assign rfl rfl) ?_
 refine GoO.nil ?_
 refine GoK.code ?_
 have hb := bind_l H; clear H
 obtain ⟨q6, hl28, HK4⟩ := hb
 refine GoC.blockJ [] [] (fun v h => ∃ (l7 : (List Int)) (x8 : Int), q6 = .go (l7, x8) ∧ v = [] ∧ h = [.one βp0 3 1 (row l7)]) ?_ ?_
 refine GoC.loopJ [(1, _), (2, _), (3, _)] [] (fun mQ v h => ∃ (l2 : (List Int)) (x3 : Int), loopC (slices_insertionSortCmpFunc_int_gale_Make_c1_B1 p1 p2 c3_0) mQ (l2, x3) = some q6 ∧ v = [(0, .own βp0 1 0 l2.length), (8, .v (.int .i64 x3))] ∧ h = [.one βp0 3 1 (row l2)]) 1000000 ⟨_, _, hl28, rfl, rfl⟩ (EnvD.cons rfl (DLe.len (by first | rfl | omega | (simp only [row_len, gridC_len, rowO_len] <;> first | rfl | omega))) (EnvD.eq rfl (EnvD.eq rfl (EnvD.eq rfl (EnvD.eq rfl (EnvD.nil)))))) (TkD.cons _ _ _ _ _ Rem.p0 (HLe.refl _) (TkD.nil _)) ?_
 rintro m9 v h ⟨l2, x3, hF5, rfl, rfl⟩
 obtain ⟨m9', rfl⟩ | rfl : (∃ x, m9 = x + 1) ∨ m9 = 0 := by cases m9 <;> simp
 case inr => cases hF5
 have hb := bind_l hF5; clear hF5
 obtain ⟨qrm9, H, hF5⟩ := hb
 refine GoC.seq ?_
 refine GoC.seq ?_
 refine GoC.region ?_
 refine GoO.pure (ps_move rfl rfl) ?_
 refine GoO.pure (ps_move rfl rfl) ?_
 refine GoO.pure (ps_lss rfl rfl rfl) ?_
 refine GoO.nil ?_
 refine GoK.code ?_
 refine GoC.condD rfl (fun h10 => ?_) (fun h10 => ?_)
 replace H := ite_t h10 H
 refine GoC.skip ?_
 refine GoK.code ?_
 refine GoC.seq ?_
 refine GoC.block ?_
 refine GoC.seq ?_
 refine GoC.region ?_
 refine GoO.pure (ps_move rfl rfl) ?_
 refine GoO.pure (ps_assign rfl rfl) ?_
 refine GoO.nil ?_
 refine GoK.code ?_
 have hb := bind_l H; clear H
 obtain ⟨q15, hl26, HK13⟩ := hb
 refine GoC.blockJ [(1, .v (.int .i64 p1)), (2, .v (.int .i64 p2)), (3, .fn 51 1 (nth [.rp 1 1 (row [c3_0]).get 0 0])), (8, .v (.int .i64 x3))] [] (fun v h => ∃ (l16 : (List Int)) (x17 : Int), q15 = .go (l16, x17) ∧ v = [(0, .own βp0 1 0 l16.length)] ∧ h = [.one βp0 3 1 (row l16)]) ?_ ?_
 refine GoC.loopJ [(1, _), (2, _), (3, _), (8, _)] [] (fun mQ v h => ∃ (l11 : (List Int)) (x12 : Int), loopC (slices_insertionSortCmpFunc_int_gale_Make_c1_B2 p1 c3_0) mQ (l11, x12) = some q15 ∧ v = [(0, .own βp0 1 0 l11.length), (9, .v (.int .i64 x12))] ∧ h = [.one βp0 3 1 (row l11)]) 1000000 ⟨_, _, hl26, rfl, rfl⟩ (EnvD.cons rfl (DLe.len (by first | rfl | omega | (simp only [row_len, gridC_len, rowO_len] <;> first | rfl | omega))) (EnvD.eq rfl (EnvD.eq rfl (EnvD.eq rfl (EnvD.eq rfl (EnvD.eq rfl (EnvD.nil))))))) (TkD.cons _ _ _ _ _ Rem.p0 (HLe.refl _) (TkD.nil _)) ?_
 rintro m18 v h ⟨l11, x12, hF14, rfl, rfl⟩
 obtain ⟨m18', rfl⟩ | rfl : (∃ x, m18 = x + 1) ∨ m18 = 0 := by cases m18 <;> simp
 case inr => cases hF14
 have hb := bind_l hF14; clear hF14
 obtain ⟨qrm18, H, hF14⟩ := hb
 refine GoC.seq ?_
 refine GoC.seq ?_
 refine GoC.drawA (.q 0 (.q 1 (.q 2 (.q 3 (.q 4 (.q 5 (.q 6 (.q 7 (.q 8 (.q 9 (.q 10 (.q 11 (.q 12 (.q 13 (.one 14 (.q 15 (.q 16 (.done)))))))))))))))))) follows (by kernel_rfl) ?_
 refine GoP.qN rfl (ps_move rfl rfl) ?_
 refine GoP.qN rfl (ps_move rfl rfl) ?_
 refine GoP.qN rfl (ps_gtr rfl rfl rfl) ?_
 refine GoP.qN rfl (ps_move rfl rfl) ?_
 refine GoP.decideD 21 rfl (fun h19 => ?_) (fun h19 => ?_)
 replace H := ite_t h19 H
 refine GoP.qT rfl rfl rfl rfl (ps_move rfl rfl) ?_
 refine GoP.qT rfl rfl rfl rfl (ps_move rfl rfl) ?_
 refine GoP.qT rfl rfl rfl rfl (ps_move rfl rfl) ?_
 have c20 := ck_l H; replace H := ck_r H
 refine GoP.qT rfl rfl rfl rfl (ps_indexAddr0 rfl rfl c20 rfl) ?_
 refine GoP.qT rfl rfl rfl rfl (ps_load rfl At.p0 At.p0 (idx_lt c20) rfl rfl) ?_
 refine GoP.qT rfl rfl rfl rfl (ps_move rfl rfl) ?_
 refine GoP.qT rfl rfl rfl rfl (ps_move rfl rfl) ?_
 have c21 := ck_l H; replace H := ck_r H
 refine GoP.qT rfl rfl rfl rfl (ps_sub rfl rfl rfl c21) ?_
 have c22 := ck_l H; replace H := ck_r H
 refine GoP.qT rfl rfl rfl rfl (ps_indexAddr0 rfl rfl c22 rfl) ?_
 refine GoP.qT rfl rfl rfl rfl (ps_load rfl At.p0 At.p0 (idx_lt c22) rfl rfl) ?_
 have hb := bind_l H; clear H
 obtain ⟨r23, e24, H⟩ := hb
 refine GoP.oneC rfl ⟨_, rfl, rfl, rfl⟩ (ef_callv rfl rfl rfl (Take.nil _) (Take.nil _) (gale_Make_c1_spec (l11.getD x12.toNat (0 : Int)) (l11.getD ((x12 - 1).toNat) (0 : Int)) c3_0 e24) (LendL.cons (Lend.refl _ _) (LendL.cons (Lend.refl _ _) (LendL.cons (Lend.refl _ _) (LendL.nil)))) rfl (gale_Make_c1_I (r23))) (Take.cons _ _ _ _ _ Rem.p0 (Take.nil _)) (fun rr HH hp => ?_)
 obtain ⟨rfl, rfl⟩ := hp
 refine GoP.qT rfl rfl rfl rfl (ps_lss rfl rfl rfl) ?_
 refine GoP.qN rfl (ps_pickT rfl rfl rfl) ?_
 refine GoP.done ?_
 refine GoK.code ?_
 refine GoC.condD rfl (fun h25 => ?_) (fun h25 => ?_)
 replace H := ite_t h25 H
 refine GoC.skip ?_
 refine GoK.code ?_
 refine GoC.seq ?_
 refine GoC.block ?_
 refine GoC.drawP (.q 0 (.q 1 (.q 2 (.q 3 (.q 4 (.q 5 (.q 6 (.q 7 (.q 8 (.q 10 (.q 11 (.q 12 (.two 9 13 (.one 13 (.q 14 (.one 15 (.q 16 (.one 17 (.done)))))) (.one 9 (.q 14 (.one 15 (.q 16 (.one 17 (.done))))))))))))))))))) [] follows (by kernel_rfl) (Take.nil _) ?_
 refine GoP.qN rfl (ps_move rfl rfl) ?_
 refine GoP.qN rfl (ps_move rfl rfl) ?_
 refine GoP.qN rfl (ps_move rfl rfl) ?_
 refine GoP.qN rfl (ps_move rfl rfl) ?_
 refine GoP.qN rfl (ps_sub rfl rfl rfl c21) ?_
 refine GoP.qN rfl (ps_move rfl rfl) ?_
 refine GoP.qN rfl (ps_move rfl rfl) ?_
 refine GoP.qN rfl (ps_sub rfl rfl rfl c21) ?_
 refine GoP.qN rfl (ps_indexAddr0 rfl rfl c22 rfl) ?_
 refine GoP.qN rfl (ps_move rfl rfl) ?_
 refine GoP.qN rfl (ps_move rfl rfl) ?_
 refine GoP.qN rfl (ps_indexAddr0 rfl rfl c20 rfl) ?_
 apply GoP.fork0
 exact rfl
 exact rfl
 exact trivial
 exact trivial
 exact Eff.pure (H1 := [.one βp0 3 1 (row l11)]) (ps_load rfl At.p0 At.p0 (idx_lt c22) rfl rfl)
 exact Eff.pure (H1 := [.one βp0 3 1 (row l11)]) (ps_load rfl At.p0 At.p0 (idx_lt c20) rfl rfl)
 exact (Take.nil _)
 exact (Take.nil _)
 intro hQ
 rintro _ rfl
 refine GoP.oneN rfl (ps_load rfl At.p0 At.p0 (idx_lt c20) rfl rfl) (Take.nil _) ?_
 refine GoP.qN rfl (ps_indexAddr0 rfl rfl c20 rfl) ?_
 refine GoP.one1 rfl trivial (ef_store rfl rfl rfl At.p0 (upd_row1 (v := (l11.getD ((x12 - 1).toNat) (0 : Int))) rfl) (idx_lt c20) rfl) (Take.cons _ _ _ _ _ Rem.p0 (Take.nil _)) ?_
 refine GoP.qN rfl (ps_indexAddr0 rfl rfl c22 rfl) ?_
 refine GoP.one1 rfl trivial (ef_store rfl rfl rfl At.p0 (upd_row1 (v := (l11.getD x12.toNat (0 : Int))) rfl) (lt_len (idx_lt c22) (by first | rfl | omega | (simp only [row_len, gridC_len, rowO_len, List.length_set] <;> first | rfl | omega))) rfl) (Take.cons _ _ _ _ _ Rem.p0 (Take.nil _)) ?_
 exact GoP.done (hQ)
 intro hQ
 rintro _ rfl
 refine GoP.oneN rfl (ps_load rfl At.p0 At.p0 (idx_lt c22) rfl rfl) (Take.nil _) ?_
 refine GoP.qN rfl (ps_indexAddr0 rfl rfl c20 rfl) ?_
 refine GoP.one1 rfl trivial (ef_store rfl rfl rfl At.p0 (upd_row1 (v := (l11.getD ((x12 - 1).toNat) (0 : Int))) rfl) (idx_lt c20) rfl) (Take.cons _ _ _ _ _ Rem.p0 (Take.nil _)) ?_
 refine GoP.qN rfl (ps_indexAddr0 rfl rfl c22 rfl) ?_
 refine GoP.one1 rfl trivial (ef_store rfl rfl rfl At.p0 (upd_row1 (v := (l11.getD x12.toNat (0 : Int))) rfl) (lt_len (idx_lt c22) (by first | rfl | omega | (simp only [row_len, gridC_len, rowO_len, List.length_set] <;> first | rfl | omega))) rfl) (Take.cons _ _ _ _ _ Rem.p0 (Take.nil _)) ?_
 refine GoP.done (GoK.le ?_ (hQ))
 refine Le.ofDW ?_ (TkD.cons _ _ _ _ _ Rem.p0 (HLe.refl _) (TkD.nil _))
 repeat (first | exact EnvLeW.nil | refine EnvLeW.cons rfl ?_ | refine EnvLeW.skip rfl ?_)
 refine GoK.blk ?_
 refine GoK.code ?_
 refine GoC.region ?_
 refine GoO.pure (ps_move rfl rfl) ?_
 refine GoO.pure (ps_sub rfl rfl rfl c21) ?_
 refine GoO.pure (ps_assign rfl rfl) ?_
 refine GoO.nil ?_
 obtain rfl := Option.some.inj H
 exact GoK.againJ m18' (by omega) ⟨_, _, hF14, rfl, rfl⟩ (EnvD.cons rfl (DLe.len (by first | rfl | omega | (simp only [row_len, gridC_len, rowO_len, List.length_set] <;> first | rfl | omega))) (EnvD.eq rfl (EnvD.eq rfl (EnvD.eq rfl (EnvD.eq rfl (EnvD.eq rfl (EnvD.nil))))))) (TkD.cons _ _ _ _ _ Rem.p0 (HLe.refl _) (TkD.nil _))
 replace H := ite_f h25 H
 refine GoC.exit rfl ?_
 obtain rfl := Option.some.inj H
 obtain rfl := Option.some.inj hF14
 exact GoK.meet ⟨_, _, rfl, rfl, rfl⟩ (EnvD.cons rfl (DLe.len (by first | rfl | omega | (simp only [row_len, gridC_len, rowO_len] <;> first | rfl | omega))) (EnvD.eq rfl (EnvD.eq rfl (EnvD.eq rfl (EnvD.eq rfl (EnvD.nil)))))) (TkD.cons _ _ _ _ _ Rem.p0 (HLe.refl _) (TkD.nil _))
 replace H := ite_f h19 H
 refine GoP.qF rfl rfl rfl rfl rfl ?_
 refine GoP.qF rfl rfl rfl rfl rfl ?_
 refine GoP.qF rfl rfl rfl rfl rfl ?_
 refine GoP.qF rfl rfl rfl rfl rfl ?_
 refine GoP.qF rfl rfl rfl rfl rfl ?_
 refine GoP.qF rfl rfl rfl rfl rfl ?_
 refine GoP.qF rfl rfl rfl rfl rfl ?_
 refine GoP.qF rfl rfl rfl rfl rfl ?_
 refine GoP.qF rfl rfl rfl rfl rfl ?_
 refine GoP.qF rfl rfl rfl rfl rfl ?_
 refine GoP.oneF rfl rfl rfl rfl rfl ?_
 refine GoP.qF rfl rfl rfl rfl rfl ?_
 refine GoP.qN rfl (ps_pickF rfl rfl rfl) ?_
 refine GoP.done ?_
 refine GoK.code ?_
 refine GoC.condF rfl ?_
 refine GoC.exit rfl ?_
 obtain rfl := Option.some.inj H
 obtain rfl := Option.some.inj hF14
 exact GoK.meet ⟨_, _, rfl, rfl, rfl⟩ (EnvD.cons rfl (DLe.len (by first | rfl | omega | (simp only [row_len, gridC_len, rowO_len] <;> first | rfl | omega))) (EnvD.eq rfl (EnvD.eq rfl (EnvD.eq rfl (EnvD.eq rfl (EnvD.nil)))))) (TkD.cons _ _ _ _ _ Rem.p0 (HLe.refl _) (TkD.nil _))
 rintro v h ⟨l16, x17, rfl, rfl, rfl⟩
 have H := HK13; clear HK13
 refine GoK.blk ?_
 refine GoK.code ?_
 refine GoC.region ?_
 refine GoO.pure (ps_move rfl rfl) ?_
 have c27 := ck_l H; replace H := ck_r H
 refine GoO.pure (ps_add rfl rfl rfl c27) ?_
 refine GoO.pure (ps_assign rfl rfl) ?_
 refine GoO.nil ?_
 obtain rfl := Option.some.inj H
 exact GoK.againJ m9' (by omega) ⟨_, _, hF5, rfl, rfl⟩ (EnvD.cons rfl (DLe.len (by first | rfl | omega | (simp only [row_len, gridC_len, rowO_len] <;> first | rfl | omega))) (EnvD.eq rfl (EnvD.eq rfl (EnvD.eq rfl (EnvD.eq rfl (EnvD.nil)))))) (TkD.cons _ _ _ _ _ Rem.p0 (HLe.refl _) (TkD.nil _))
 replace H := ite_f h10 H
 refine GoC.exit rfl ?_
 obtain rfl := Option.some.inj H
 obtain rfl := Option.some.inj hF5
 exact GoK.meet ⟨_, _, rfl, rfl, rfl⟩ (EnvD.nil) (TkD.cons _ _ _ _ _ Rem.p0 (HLe.refl _) (TkD.nil _))
 rintro v h ⟨l7, x8, rfl, rfl, rfl⟩
 have H := HK4; clear HK4
 obtain rfl := Option.some.inj H
 exact GoK.retL (ds := []) Try.results92 (ResL.nil) (Take.cons _ _ _ _ _ Rem.p0 (Take.nil _)) ⟨rfl, rfl⟩

def slices_siftDownCmpFunc_int_gale_Make_c1_B1 (p2 : Int) (p3 : Int) (c4_0 : (List Int)) : ((List Int) × Int) → Option (Ct ((List Int) × Int) ((List Int))) := fun (l1, x2) =>
 ck (InI (2 * x2)) <|
 ck (InI ((2 * x2) + 1)) <|
 if p2 ≤ ((2 * x2) + 1) then
  some (.brk (l1, x2))
 else
  ((
   ck (InI (((2 * x2) + 1) + 1)) <|
   if (((2 * x2) + 1) + 1) < p2 then
    ck (InI (p3 + ((2 * x2) + 1))) <|
    ck (0 ≤ (p3 + ((2 * x2) + 1)) ∧ (p3 + ((2 * x2) + 1)) < ((l1.length : Nat) : Int)) <|
    ck (InI ((p3 + ((2 * x2) + 1)) + 1)) <|
    ck (0 ≤ ((p3 + ((2 * x2) + 1)) + 1) ∧ ((p3 + ((2 * x2) + 1)) + 1) < ((l1.length : Nat) : Int)) <|
    (gale_Make_c1_F (l1.getD ((p3 + ((2 * x2) + 1)).toNat) (0 : Int)) (l1.getD (((p3 + ((2 * x2) + 1)) + 1).toNat) (0 : Int)) c4_0).bind fun r21 =>
    if r21 < 0 then
     some (((2 * x2) + 1) + 1)
    else
     some ((2 * x2) + 1)
   else
    some ((2 * x2) + 1)) : Option (Int)).bind fun x12 =>
  ck (InI (p3 + x2)) <|
  ck (0 ≤ (p3 + x2) ∧ (p3 + x2) < ((l1.length : Nat) : Int)) <|
  ck (InI (p3 + x12)) <|
  ck (0 ≤ (p3 + x12) ∧ (p3 + x12) < ((l1.length : Nat) : Int)) <|
  (gale_Make_c1_F (l1.getD ((p3 + x2).toNat) (0 : Int)) (l1.getD ((p3 + x12).toNat) (0 : Int)) c4_0).bind fun r28 =>
  if ¬ (r28 < 0) then
   some (.ret l1)
  else
   some (.go (((l1.set ((p3 + x2).toNat) (l1.getD ((p3 + x12).toNat) (0 : Int))).set ((p3 + x12).toNat) (l1.getD ((p3 + x2).toNat) (0 : Int))), x12))
def slices_siftDownCmpFunc_int_gale_Make_c1_F (p0 : (List Int)) (p1 : Int) (p2 : Int) (p3 : Int) (c4_0 : (List Int)) : Option ((List Int)) :=
 (loopC (slices_siftDownCmpFunc_int_gale_Make_c1_B1 p2 p3 c4_0) 1000000 (p0, p1)).bind fun q => match q with
 | .go (l6, x7) =>
  some l6
 | .ret x => some x
def slices_siftDownCmpFunc_int_gale_Make_c1_P (out : (List Int)) (βp0 : BK) (d : D) (H : List HL) : Prop := d = .tp 0 (nth []) ∧ H = [.one βp0 3 1 (row out)]
theorem slices_siftDownCmpFunc_int_gale_Make_c1_I (out : (List Int)) (βp0 : BK) : IndepP (slices_siftDownCmpFunc_int_gale_Make_c1_P out βp0) := IndepP.of (by rintro _ _ ⟨rfl, rfl⟩; exact ⟨inferInstance, inferInstance⟩)
set_option maxRecDepth 100000 in
set_option maxHeartbeats 4000000 in
theorem slices_siftDownCmpFunc_int_gale_Make_c1_spec (p0 : (List Int)) (p1 : Int) (p2 : Int) (p3 : Int) (c4_0 : (List Int)) (βp0 : BK) {out : (List Int)} (H : slices_siftDownCmpFunc_int_gale_Make_c1_F p0 p1 p2 p3 c4_0 = some out) : Does Try.prog 106 [.own βp0 1 0 p0.length, .v (.int .i64 p1), .v (.int .i64 p2), .v (.int .i64 p3), .fn 51 1 (nth [.rp 1 1 (row [c4_0]).get 0 0])] [.one βp0 3 1 (row p0)] (slices_siftDownCmpFunc_int_gale_Make_c1_P out βp0) := by
 unfold slices_siftDownCmpFunc_int_gale_Make_c1_F at H
 refine Does.intro Try.func106 rfl Try.ntmps106 rfl fun w0 I0 => ?_
 refine GoC.seq ?_
 refine GoC.region ?_
 refine GoO.pure (ps_move rfl rfl) ?_
 refine GoO.pure (ps_assign rfl rfl) ?_
 refine GoO.nil ?_
 refine GoK.code ?_
 have hb := bind_l H; clear H
 obtain ⟨q5, hl31, HK3⟩ := hb
 refine GoC.blockJ [] [] (fun v h => ∃ (l6 : (List Int)) (x7 : Int), q5 = .go (l6, x7) ∧ v = [] ∧ h = [.one βp0 3 1 (row l6)]) ?_ ?_
 refine GoC.loopJ [(2, _), (3, _), (4, _)] [] (fun mQ v h => ∃ (l1 : (List Int)) (x2 : Int), loopC (slices_siftDownCmpFunc_int_gale_Make_c1_B1 p2 p3 c4_0) mQ (l1, x2) = some q5 ∧ v = [(0, .own βp0 1 0 l1.length), (10, .v (.int .i64 x2))] ∧ h = [.one βp0 3 1 (row l1)]) 1000000 ⟨_, _, hl31, rfl, rfl⟩ (EnvD.cons rfl (DLe.len (by first | rfl | omega | (simp only [row_len, gridC_len, rowO_len] <;> first | rfl | omega))) (EnvD.eq rfl (EnvD.eq rfl (EnvD.eq rfl (EnvD.eq rfl (EnvD.nil)))))) (TkD.cons _ _ _ _ _ Rem.p0 (HLe.refl _) (TkD.nil _)) ?_
 rintro m8 v h ⟨l1, x2, hF4, rfl, rfl⟩
 obtain ⟨m8', rfl⟩ | rfl : (∃ x, m8 = x + 1) ∨ m8 = 0 := by cases m8 <;> simp
 case inr => cases hF4
 have hb := bind_l hF4; clear hF4
 obtain ⟨qrm8, H, hF4⟩ := hb
 refine GoC.block ?_
 refine GoC.seq ?_
 refine GoC.region ?_
 refine GoO.pure (ps_move rfl rfl) ?_
 have c9 := ck_l H; replace H := ck_r H
 refine GoO.pure (ps_mul rfl rfl rfl c9) ?_
 have c10 := ck_l H; replace H := ck_r H
 refine GoO.pure (ps_add rfl rfl rfl c10) ?_
 refine GoO.pure (ps_assign rfl rfl) ?_
 refine GoO.nil ?_
 refine GoK.code ?_
 refine GoC.seq ?_
 refine GoC.seq ?_
 refine GoC.region ?_
 refine GoO.pure (ps_move rfl rfl) ?_
 refine GoO.pure (ps_move rfl rfl) ?_
 refine GoO.pure (ps_geq rfl rfl rfl) ?_
 refine GoO.nil ?_
 refine GoK.code ?_
 refine GoC.condD rfl (fun h11 => ?_) (fun h11 => ?_)
 replace H := ite_t h11 H
 refine GoC.exit rfl ?_
 obtain rfl := Option.some.inj H
 obtain rfl := Option.some.inj hF4
 exact GoK.meet ⟨_, _, rfl, rfl, rfl⟩ (EnvD.nil) (TkD.cons _ _ _ _ _ Rem.p0 (HLe.refl _) (TkD.nil _))
 replace H := ite_f h11 H
 refine GoC.skip ?_
 refine GoK.code ?_
 have hb := bind_l H; clear H
 obtain ⟨x12, H, HK13⟩ := hb
 refine GoC.seqJ [(0, .own βp0 1 0 l1.length), (2, .v (.int .i64 p2)), (3, .v (.int .i64 p3)), (4, .fn 51 1 (nth [.rp 1 1 (row [c4_0]).get 0 0])), (10, .v (.int .i64 x2))] [.one βp0 3 1 (row l1)] (fun v h => v = [(11, .v (.int .i64 x12))] ∧ h = []) ?_ ?_
 refine GoC.seq ?_
 refine GoC.drawA (.q 0 (.q 1 (.q 2 (.q 3 (.q 4 (.q 5 (.q 6 (.q 7 (.q 8 (.q 9 (.q 10 (.q 11 (.q 12 (.q 13 (.q 14 (.q 15 (.q 16 (.q 17 (.q 18 (.one 19 (.q 20 (.q 21 (.done))))))))))))))))))))))) follows (by kernel_rfl) ?_
 refine GoP.qN rfl (ps_move rfl rfl) ?_
 have c15 := ck_l H; replace H := ck_r H
 refine GoP.qN rfl (ps_add rfl rfl rfl c15) ?_
 refine GoP.qN rfl (ps_move rfl rfl) ?_
 refine GoP.qN rfl (ps_lss rfl rfl rfl) ?_
 refine GoP.qN rfl (ps_move rfl rfl) ?_
 refine GoP.decideD 23 rfl (fun h16 => ?_) (fun h16 => ?_)
 replace H := ite_t h16 H
 refine GoP.qT rfl rfl rfl rfl (ps_move rfl rfl) ?_
 refine GoP.qT rfl rfl rfl rfl (ps_move rfl rfl) ?_
 refine GoP.qT rfl rfl rfl rfl (ps_move rfl rfl) ?_
 refine GoP.qT rfl rfl rfl rfl (ps_move rfl rfl) ?_
 have c17 := ck_l H; replace H := ck_r H
 refine GoP.qT rfl rfl rfl rfl (ps_add rfl rfl rfl c17) ?_
 have c18 := ck_l H; replace H := ck_r H
 refine GoP.qT rfl rfl rfl rfl (ps_indexAddr0 rfl rfl c18 rfl) ?_
 refine GoP.qT rfl rfl rfl rfl (ps_load rfl At.p0 At.p0 (idx_lt c18) rfl rfl) ?_
 refine GoP.qT rfl rfl rfl rfl (ps_move rfl rfl) ?_
 refine GoP.qT rfl rfl rfl rfl (ps_move rfl rfl) ?_
 refine GoP.qT rfl rfl rfl rfl (ps_move rfl rfl) ?_
 refine GoP.qT rfl rfl rfl rfl (ps_add rfl rfl rfl c17) ?_
 have c19 := ck_l H; replace H := ck_r H
 refine GoP.qT rfl rfl rfl rfl (ps_add rfl rfl rfl c19) ?_
 have c20 := ck_l H; replace H := ck_r H
 refine GoP.qT rfl rfl rfl rfl (ps_indexAddr0 rfl rfl c20 rfl) ?_
 refine GoP.qT rfl rfl rfl rfl (ps_load rfl At.p0 At.p0 (idx_lt c20) rfl rfl) ?_
 have hb := bind_l H; clear H
 obtain ⟨r21, e22, H⟩ := hb
 refine GoP.oneC rfl ⟨_, rfl, rfl, rfl⟩ (ef_callv rfl rfl rfl (Take.nil _) (Take.nil _) (gale_Make_c1_spec (l1.getD ((p3 + ((2 * x2) + 1)).toNat) (0 : Int)) (l1.getD (((p3 + ((2 * x2) + 1)) + 1).toNat) (0 : Int)) c4_0 e22) (LendL.cons (Lend.refl _ _) (LendL.cons (Lend.refl _ _) (LendL.cons (Lend.refl _ _) (LendL.nil)))) rfl (gale_Make_c1_I (r21))) (Take.cons _ _ _ _ _ Rem.p0 (Take.nil _)) (fun rr HH hp => ?_)
 obtain ⟨rfl, rfl⟩ := hp
 refine GoP.qT rfl rfl rfl rfl (ps_lss rfl rfl rfl) ?_
 refine GoP.qN rfl (ps_pickT rfl rfl rfl) ?_
 refine GoP.done ?_
 refine GoK.code ?_
 refine GoC.condD rfl (fun h23 => ?_) (fun h23 => ?_)
 replace H := ite_t h23 H
 refine GoC.region ?_
 refine GoO.pure (ps_move rfl rfl) ?_
 refine GoO.pure (ps_add rfl rfl rfl c15) ?_
 refine GoO.pure (ps_assign rfl rfl) ?_
 refine GoO.nil ?_
 cases H
 exact GoK.meet ⟨rfl, rfl⟩ (EnvD.eq rfl (EnvD.eq rfl (EnvD.eq rfl (EnvD.eq rfl (EnvD.eq rfl (EnvD.eq rfl (EnvD.nil))))))) (TkD.cons _ _ _ _ _ Rem.p0 (HLe.refl _) (TkD.nil _))
 replace H := ite_f h23 H
 refine GoC.skip ?_
 cases H
 exact GoK.meet ⟨rfl, rfl⟩ (EnvD.eq rfl (EnvD.eq rfl (EnvD.eq rfl (EnvD.eq rfl (EnvD.eq rfl (EnvD.eq rfl (EnvD.nil))))))) (TkD.cons _ _ _ _ _ Rem.p0 (HLe.refl _) (TkD.nil _))
 replace H := ite_f h16 H
 refine GoP.qF rfl rfl rfl rfl rfl ?_
 refine GoP.qF rfl rfl rfl rfl rfl ?_
 refine GoP.qF rfl rfl rfl rfl rfl ?_
 refine GoP.qF rfl rfl rfl rfl rfl ?_
 refine GoP.qF rfl rfl rfl rfl rfl ?_
 refine GoP.qF rfl rfl rfl rfl rfl ?_
 refine GoP.qF rfl rfl rfl rfl rfl ?_
 refine GoP.qF rfl rfl rfl rfl rfl ?_
 refine GoP.qF rfl rfl rfl rfl rfl ?_
 refine GoP.qF rfl rfl rfl rfl rfl ?_
 refine GoP.qF rfl rfl rfl rfl rfl ?_
 refine GoP.qF rfl rfl rfl rfl rfl ?_
 refine GoP.qF rfl rfl rfl rfl rfl ?_
 refine GoP.qF rfl rfl rfl rfl rfl ?_
 refine GoP.oneF rfl rfl rfl rfl rfl ?_
 refine GoP.qF rfl rfl rfl rfl rfl ?_
 refine GoP.qN rfl (ps_pickF rfl rfl rfl) ?_
 refine GoP.done ?_
 refine GoK.code ?_
 refine GoC.condF rfl ?_
 refine GoC.skip ?_
 cases H
 exact GoK.meet ⟨rfl, rfl⟩ (EnvD.eq rfl (EnvD.eq rfl (EnvD.eq rfl (EnvD.eq rfl (EnvD.eq rfl (EnvD.eq rfl (EnvD.nil))))))) (TkD.cons _ _ _ _ _ Rem.p0 (HLe.refl _) (TkD.nil _))
 rintro v h ⟨rfl, rfl⟩
 have H := HK13; clear HK13
 refine GoC.seq ?_
 refine GoC.seq ?_
 refine GoC.drawA (.q 0 (.q 1 (.q 2 (.q 3 (.q 4 (.q 5 (.q 6 (.q 7 (.q 8 (.q 9 (.q 10 (.q 11 (.q 12 (.one 13 (.q 14 (.q 15 (.done))))))))))))))))) follows (by kernel_rfl) ?_
 refine GoP.qN rfl (ps_move rfl rfl) ?_
 refine GoP.qN rfl (ps_move rfl rfl) ?_
 refine GoP.qN rfl (ps_move rfl rfl) ?_
 refine GoP.qN rfl (ps_move rfl rfl) ?_
 have c24 := ck_l H; replace H := ck_r H
 refine GoP.qN rfl (ps_add rfl rfl rfl c24) ?_
 have c25 := ck_l H; replace H := ck_r H
 refine GoP.qN rfl (ps_indexAddr0 rfl rfl c25 rfl) ?_
 refine GoP.qN rfl (ps_load rfl At.p0 At.p0 (idx_lt c25) rfl rfl) ?_
 refine GoP.qN rfl (ps_move rfl rfl) ?_
 refine GoP.qN rfl (ps_move rfl rfl) ?_
 refine GoP.qN rfl (ps_move rfl rfl) ?_
 have c26 := ck_l H; replace H := ck_r H
 refine GoP.qN rfl (ps_add rfl rfl rfl c26) ?_
 have c27 := ck_l H; replace H := ck_r H
 refine GoP.qN rfl (ps_indexAddr0 rfl rfl c27 rfl) ?_
 refine GoP.qN rfl (ps_load rfl At.p0 At.p0 (idx_lt c27) rfl rfl) ?_
 have hb := bind_l H; clear H
 obtain ⟨r28, e29, H⟩ := hb
 refine GoP.oneC rfl trivial (ef_callv rfl rfl rfl (Take.nil _) (Take.nil _) (gale_Make_c1_spec (l1.getD ((p3 + x2).toNat) (0 : Int)) (l1.getD ((p3 + x12).toNat) (0 : Int)) c4_0 e29) (LendL.cons (Lend.refl _ _) (LendL.cons (Lend.refl _ _) (LendL.cons (Lend.refl _ _) (LendL.nil)))) rfl (gale_Make_c1_I (r28))) (Take.cons _ _ _ _ _ Rem.p0 (Take.nil _)) (fun rr HH hp => ?_)
 obtain ⟨rfl, rfl⟩ := hp
 refine GoP.qN rfl (ps_lss rfl rfl rfl) ?_
 refine GoP.qN rfl (ps_notD rfl rfl) ?_
 refine GoP.done ?_
 refine GoK.code ?_
 refine GoC.condD rfl (fun h30 => ?_) (fun h30 => ?_)
 replace H := ite_t h30 H
 obtain rfl := Option.some.inj H
 obtain rfl := Option.some.inj hF4
 obtain rfl := Option.some.inj HK3
 exact GoC.retL (ds := []) Try.results106 (ResL.nil) (Take.cons _ _ _ _ _ Rem.p0 (Take.nil _)) ⟨rfl, rfl⟩
 replace H := ite_f h30 H
 refine GoC.skip ?_
 refine GoK.code ?_
 refine GoC.seq ?_
 refine GoC.drawP (.q 0 (.q 1 (.q 2 (.q 3 (.q 4 (.q 5 (.q 6 (.q 7 (.q 8 (.q 9 (.q 10 (.q 11 (.q 12 (.q 14 (.q 15 (.q 16 (.q 17 (.q 18 (.two 13 19 (.one 19 (.q 20 (.one 21 (.q 22 (.one 23 (.done)))))) (.one 13 (.q 20 (.one 21 (.q 22 (.one 23 (.done))))))))))))))))))))))))) [] follows (by kernel_rfl) (Take.nil _) ?_
 refine GoP.qN rfl (ps_move rfl rfl) ?_
 refine GoP.qN rfl (ps_move rfl rfl) ?_
 refine GoP.qN rfl (ps_move rfl rfl) ?_
 refine GoP.qN rfl (ps_add rfl rfl rfl c24) ?_
 refine GoP.qN rfl (ps_move rfl rfl) ?_
 refine GoP.qN rfl (ps_move rfl rfl) ?_
 refine GoP.qN rfl (ps_move rfl rfl) ?_
 refine GoP.qN rfl (ps_add rfl rfl rfl c26) ?_
 refine GoP.qN rfl (ps_move rfl rfl) ?_
 refine GoP.qN rfl (ps_move rfl rfl) ?_
 refine GoP.qN rfl (ps_move rfl rfl) ?_
 refine GoP.qN rfl (ps_add rfl rfl rfl c26) ?_
 refine GoP.qN rfl (ps_indexAddr0 rfl rfl c27 rfl) ?_
 refine GoP.qN rfl (ps_move rfl rfl) ?_
 refine GoP.qN rfl (ps_move rfl rfl) ?_
 refine GoP.qN rfl (ps_move rfl rfl) ?_
 refine GoP.qN rfl (ps_add rfl rfl rfl c24) ?_
 refine GoP.qN rfl (ps_indexAddr0 rfl rfl c25 rfl) ?_
 apply GoP.fork0
 exact rfl
 exact rfl
 exact trivial
 exact trivial
 exact Eff.pure (H1 := [.one βp0 3 1 (row l1)]) (ps_load rfl At.p0 At.p0 (idx_lt c27) rfl rfl)
 exact Eff.pure (H1 := [.one βp0 3 1 (row l1)]) (ps_load rfl At.p0 At.p0 (idx_lt c25) rfl rfl)
 exact (Take.nil _)
 exact (Take.nil _)
 intro hQ
 rintro _ rfl
 refine GoP.oneN rfl (ps_load rfl At.p0 At.p0 (idx_lt c25) rfl rfl) (Take.nil _) ?_
 refine GoP.qN rfl (ps_indexAddr0 rfl rfl c25 rfl) ?_
 refine GoP.one1 rfl trivial (ef_store rfl rfl rfl At.p0 (upd_row1 (v := (l1.getD ((p3 + x12).toNat) (0 : Int))) rfl) (idx_lt c25) rfl) (Take.cons _ _ _ _ _ Rem.p0 (Take.nil _)) ?_
 refine GoP.qN rfl (ps_indexAddr0 rfl rfl c27 rfl) ?_
 refine GoP.one1 rfl trivial (ef_store rfl rfl rfl At.p0 (upd_row1 (v := (l1.getD ((p3 + x2).toNat) (0 : Int))) rfl) (lt_len (idx_lt c27) (by first | rfl | omega | (simp only [row_len, gridC_len, rowO_len, List.length_set] <;> first | rfl | omega))) rfl) (Take.cons _ _ _ _ _ Rem.p0 (Take.nil _)) ?_
 exact GoP.done (hQ)
 intro hQ
 rintro _ rfl
 refine GoP.oneN rfl (ps_load rfl At.p0 At.p0 (idx_lt c27) rfl rfl) (Take.nil _) ?_
 refine GoP.qN rfl (ps_indexAddr0 rfl rfl c25 rfl) ?_
 refine GoP.one1 rfl trivial (ef_store rfl rfl rfl At.p0 (upd_row1 (v := (l1.getD ((p3 + x12).toNat) (0 : Int))) rfl) (idx_lt c25) rfl) (Take.cons _ _ _ _ _ Rem.p0 (Take.nil _)) ?_
 refine GoP.qN rfl (ps_indexAddr0 rfl rfl c27 rfl) ?_
 refine GoP.one1 rfl trivial (ef_store rfl rfl rfl At.p0 (upd_row1 (v := (l1.getD ((p3 + x2).toNat) (0 : Int))) rfl) (lt_len (idx_lt c27) (by first | rfl | omega | (simp only [row_len, gridC_len, rowO_len, List.length_set] <;> first | rfl | omega))) rfl) (Take.cons _ _ _ _ _ Rem.p0 (Take.nil _)) ?_
 refine GoP.done (GoK.le ?_ (hQ))
 refine Le.ofDW ?_ (TkD.cons _ _ _ _ _ Rem.p0 (HLe.refl _) (TkD.nil _))
 repeat (first | exact EnvLeW.nil | refine EnvLeW.cons rfl ?_ | refine EnvLeW.skip rfl ?_)
 refine GoK.code ?_
 refine GoC.region ?_
 refine GoO.pure (ps_move rfl rfl) ?_
 refine GoO.pure (ps_assign rfl rfl) ?_
 refine GoO.nil ?_
 refine GoK.blk ?_
 obtain rfl := Option.some.inj H
 exact GoK.againJ m8' (by omega) ⟨_, _, hF4, rfl, rfl⟩ (EnvD.cons rfl (DLe.len (by first | rfl | omega | (simp only [row_len, gridC_len, rowO_len, List.length_set] <;> first | rfl | omega))) (EnvD.eq rfl (EnvD.eq rfl (EnvD.eq rfl (EnvD.eq rfl (EnvD.nil)))))) (TkD.cons _ _ _ _ _ Rem.p0 (HLe.refl _) (TkD.nil _))
 rintro v h ⟨l6, x7, rfl, rfl, rfl⟩
 have H := HK3; clear HK3
 obtain rfl := Option.some.inj H
 exact GoK.retL (ds := []) Try.results106 (ResL.nil) (Take.cons _ _ _ _ _ Rem.p0 (Take.nil _)) ⟨rfl, rfl⟩

def slices_heapSortCmpFunc_int_gale_Make_c1_B1 (p1 : Int) (p2 : Int) (c3_0 : (List Int)) : ((List Int) × Int) → Option (Ct ((List Int) × Int) ((List Int))) := fun (l4, x5) =>
 if 0 ≤ x5 then
  (slices_siftDownCmpFunc_int_gale_Make_c1_F l4 x5 (p2 - p1) p1 c3_0).bind fun l13 =>
  ck (l13.length = l4.length) <|
  ck (InI (x5 - 1)) <|
  some (.go (l13, (x5 - 1)))
 else
  some (.brk (l4, x5))
def slices_heapSortCmpFunc_int_gale_Make_c1_B2 (p1 : Int) (c3_0 : (List Int)) : ((List Int) × Int) → Option (Ct ((List Int) × Int) ((List Int))) := fun (l18, x19) =>
 if 0 ≤ x19 then
  ck (InI (p1 + x19)) <|
  ck (0 ≤ (p1 + x19) ∧ (p1 + x19) < ((l18.length : Nat) : Int)) <|
  ck (0 ≤ p1 ∧ p1 < ((l18.length : Nat) : Int)) <|
  (slices_siftDownCmpFunc_int_gale_Make_c1_F ((l18.set p1.toNat (l18.getD ((p1 + x19).toNat) (0 : Int))).set ((p1 + x19).toNat) (l18.getD p1.toNat (0 : Int))) 0 x19 p1 c3_0).bind fun l30 =>
  ck (l30.length = l18.length) <|
  ck (InI (x19 - 1)) <|
  some (.go (l30, (x19 - 1)))
 else
  some (.brk (l18, x19))
def slices_heapSortCmpFunc_int_gale_Make_c1_F (p0 : (List Int)) (p1 : Int) (p2 : Int) (c3_0 : (List Int)) : Option ((List Int)) :=
 ck (InI (p2 - p1)) <|
 ck (InI ((p2 - p1) - 1)) <|
 ck (InI (Int.tdiv ((p2 - p1) - 1) 2)) <|
 (loopC (slices_heapSortCmpFunc_int_gale_Make_c1_B1 p1 p2 c3_0) 1000000 (p0, (Int.tdiv ((p2 - p1) - 1) 2))).bind fun q => match q with
 | .go (l9, x10) =>
  (loopC (slices_heapSortCmpFunc_int_gale_Make_c1_B2 p1 c3_0) 1000000 (l9, ((p2 - p1) - 1))).bind fun q => match q with
  | .go (l23, x24) =>
   some l23
  | .ret x => some x
 | .ret x => some x
def slices_heapSortCmpFunc_int_gale_Make_c1_P (out : (List Int)) (βp0 : BK) (d : D) (H : List HL) : Prop := d = .tp 0 (nth []) ∧ H = [.one βp0 3 1 (row out)]
theorem slices_heapSortCmpFunc_int_gale_Make_c1_I (out : (List Int)) (βp0 : BK) : IndepP (slices_heapSortCmpFunc_int_gale_Make_c1_P out βp0) := IndepP.of (by rintro _ _ ⟨rfl, rfl⟩; exact ⟨inferInstance, inferInstance⟩)
set_option maxRecDepth 100000 in
set_option maxHeartbeats 4000000 in
theorem slices_heapSortCmpFunc_int_gale_Make_c1_spec (p0 : (List Int)) (p1 : Int) (p2 : Int) (c3_0 : (List Int)) (βp0 : BK) {out : (List Int)} (H : slices_heapSortCmpFunc_int_gale_Make_c1_F p0 p1 p2 c3_0 = some out) : Does Try.prog 93 [.own βp0 1 0 p0.length, .v (.int .i64 p1), .v (.int .i64 p2), .fn 51 1 (nth [.rp 1 1 (row [c3_0]).get 0 0])] [.one βp0 3 1 (row p0)] (slices_heapSortCmpFunc_int_gale_Make_c1_P out βp0) := by
 unfold slices_heapSortCmpFunc_int_gale_Make_c1_F at H
 refine Does.intro Try.func93 rfl Try.ntmps93 rfl fun w0 I0 => ?_
 refine GoC.seq ?_
 refine GoC.region ?_
 refine GoO.pure (ps_move rfl rfl) ?_
 refine GoO.pure (ps_assign rfl rfl) ?_
 refine GoO.nil ?_
 refine GoK.code ?_
 refine GoC.seq ?_
 refine GoC.region ?_
 refine GoO.pure (ps_assign rfl rfl) ?_
 refine GoO.nil ?_
 refine GoK.code ?_
 refine GoC.seq ?_
 refine GoC.region ?_
 refine GoO.pure (ps_move rfl rfl) ?_
 refine GoO.pure (ps_move rfl rfl) ?_
 have c1 := ck_l H; replace H := ck_r H
 refine GoO.pure (ps_sub rfl rfl rfl c1) ?_
 refine GoO.pure (ps_assign rfl rfl) ?_
 refine GoO.nil ?_
 refine GoK.code ?_
 refine GoC.seq ?_
 refine GoC.seq ?_
 refine GoC.region ?_
 refine GoO.pure (ps_move rfl rfl) ?_
 have c2 := ck_l H; replace H := ck_r H
 refine GoO.pure (ps_sub rfl rfl rfl c2) ?_
 have c3 := ck_l H; replace H := ck_r H
 refine GoO.pure (ps_quo rfl rfl rfl (by decide) c3) ?_
 refine GoO.pure (ps_assign rfl rfl) ?_
 refine GoO.nil ?_
 refine GoK.code ?_
 have hb := bind_l H; clear H
 obtain ⟨q8, hl17, HK6⟩ := hb
 refine GoC.blockJ [(3, .fn 51 1 (nth [.rp 1 1 (row [c3_0]).get 0 0])), (8, .v (.int .i64 p1)), (9, .v (.int .i64 0)), (10, .v (.int .i64 (p2 - p1)))] [] (fun v h => ∃ (l9 : (List Int)) (x10 : Int), q8 = .go (l9, x10) ∧ v = [(0, .own βp0 1 0 l9.length)] ∧ h = [.one βp0 3 1 (row l9)]) ?_ ?_
 refine GoC.loopJ [(3, _), (8, _), (9, _), (10, _)] [] (fun mQ v h => ∃ (l4 : (List Int)) (x5 : Int), loopC (slices_heapSortCmpFunc_int_gale_Make_c1_B1 p1 p2 c3_0) mQ (l4, x5) = some q8 ∧ v = [(0, .own βp0 1 0 l4.length), (11, .v (.int .i64 x5))] ∧ h = [.one βp0 3 1 (row l4)]) 1000000 ⟨_, _, hl17, rfl, rfl⟩ (EnvD.cons rfl (DLe.len (by first | rfl | omega | (simp only [row_len, gridC_len, rowO_len] <;> first | rfl | omega))) (EnvD.eq rfl (EnvD.eq rfl (EnvD.eq rfl (EnvD.eq rfl (EnvD.eq rfl (EnvD.nil))))))) (TkD.cons _ _ _ _ _ Rem.p0 (HLe.refl _) (TkD.nil _)) ?_
 rintro m11 v h ⟨l4, x5, hF7, rfl, rfl⟩
 obtain ⟨m11', rfl⟩ | rfl : (∃ x, m11 = x + 1) ∨ m11 = 0 := by cases m11 <;> simp
 case inr => cases hF7
 have hb := bind_l hF7; clear hF7
 obtain ⟨qrm11, H, hF7⟩ := hb
 refine GoC.seq ?_
 refine GoC.seq ?_
 refine GoC.region ?_
 refine GoO.pure (ps_move rfl rfl) ?_
 refine GoO.pure (ps_geq rfl rfl rfl) ?_
 refine GoO.nil ?_
 refine GoK.code ?_
 refine GoC.condD rfl (fun h12 => ?_) (fun h12 => ?_)
 replace H := ite_t h12 H
 refine GoC.skip ?_
 refine GoK.code ?_
 refine GoC.seq ?_
 refine GoC.block ?_
 refine GoC.region ?_
 refine GoO.pure (ps_move rfl rfl) ?_
 refine GoO.pure (ps_move rfl rfl) ?_
 refine GoO.pure (ps_move rfl rfl) ?_
 refine GoO.pure (ps_move rfl rfl) ?_
 refine GoO.pure (ps_move rfl rfl) ?_
 have hb := bind_l H; clear H
 obtain ⟨l13, e14, H⟩ := hb
 have c15 := ck_l H; replace H := ck_r H
 refine GoO.effC (ef_call rfl (Take.cons _ _ _ _ _ Rem.p0 (Take.nil _)) (Take.nil _) (slices_siftDownCmpFunc_int_gale_Make_c1_spec l4 x5 (p2 - p1) p1 c3_0 βp0 e14) (LendL.cons (Lend.refl _ _) (LendL.cons (Lend.refl _ _) (LendL.cons (Lend.refl _ _) (LendL.cons (Lend.refl _ _) (LendL.cons (Lend.fn (LendL.cons (Lend.refl _ _) (LendL.nil))) (LendL.nil)))))) rfl (slices_siftDownCmpFunc_int_gale_Make_c1_I (l13) βp0)) (fun rr HH hp => ?_)
 obtain ⟨rfl, rfl⟩ := hp
 refine GoO.nil ?_
 refine GoK.blk ?_
 refine GoK.code ?_
 refine GoC.region ?_
 refine GoO.pure (ps_move rfl rfl) ?_
 have c16 := ck_l H; replace H := ck_r H
 refine GoO.pure (ps_sub rfl rfl rfl c16) ?_
 refine GoO.pure (ps_assign rfl rfl) ?_
 refine GoO.nil ?_
 obtain rfl := Option.some.inj H
 exact GoK.againJ m11' (by omega) ⟨_, _, hF7, rfl, rfl⟩ (EnvD.cons rfl (DLe.len (by first | rfl | omega | (simp only [row_len, gridC_len, rowO_len, c15] <;> first | rfl | omega))) (EnvD.eq rfl (EnvD.eq rfl (EnvD.eq rfl (EnvD.eq rfl (EnvD.eq rfl (EnvD.nil))))))) (TkD.cons _ _ _ _ _ Rem.p0 (HLe.refl _) (TkD.nil _))
 replace H := ite_f h12 H
 refine GoC.exit rfl ?_
 obtain rfl := Option.some.inj H
 obtain rfl := Option.some.inj hF7
 exact GoK.meet ⟨_, _, rfl, rfl, rfl⟩ (EnvD.cons rfl (DLe.len (by first | rfl | omega | (simp only [row_len, gridC_len, rowO_len] <;> first | rfl | omega))) (EnvD.eq rfl (EnvD.eq rfl (EnvD.eq rfl (EnvD.eq rfl (EnvD.nil)))))) (TkD.cons _ _ _ _ _ Rem.p0 (HLe.refl _) (TkD.nil _))
 rintro v h ⟨l9, x10, rfl, rfl, rfl⟩
 have H := HK6; clear HK6
 refine GoK.code ?_
 refine GoC.seq ?_
 refine GoC.region ?_
 refine GoO.pure (ps_move rfl rfl) ?_
 refine GoO.pure (ps_sub rfl rfl rfl c2) ?_
 refine GoO.pure (ps_assign rfl rfl) ?_
 refine GoO.nil ?_
 refine GoK.code ?_
 have hb := bind_l H; clear H
 obtain ⟨q22, hl34, HK20⟩ := hb
 refine GoC.blockJ [] [] (fun v h => ∃ (l23 : (List Int)) (x24 : Int), q22 = .go (l23, x24) ∧ v = [] ∧ h = [.one βp0 3 1 (row l23)]) ?_ ?_
 refine GoC.loopJ [(3, _), (8, _), (9, _)] [] (fun mQ v h => ∃ (l18 : (List Int)) (x19 : Int), loopC (slices_heapSortCmpFunc_int_gale_Make_c1_B2 p1 c3_0) mQ (l18, x19) = some q22 ∧ v = [(0, .own βp0 1 0 l18.length), (12, .v (.int .i64 x19))] ∧ h = [.one βp0 3 1 (row l18)]) 1000000 ⟨_, _, hl34, rfl, rfl⟩ (EnvD.cons rfl (DLe.len (by first | rfl | omega | (simp only [row_len, gridC_len, rowO_len] <;> first | rfl | omega))) (EnvD.eq rfl (EnvD.eq rfl (EnvD.eq rfl (EnvD.eq rfl (EnvD.nil)))))) (TkD.cons _ _ _ _ _ Rem.p0 (HLe.refl _) (TkD.nil _)) ?_
 rintro m25 v h ⟨l18, x19, hF21, rfl, rfl⟩
 obtain ⟨m25', rfl⟩ | rfl : (∃ x, m25 = x + 1) ∨ m25 = 0 := by cases m25 <;> simp
 case inr => cases hF21
 have hb := bind_l hF21; clear hF21
 obtain ⟨qrm25, H, hF21⟩ := hb
 refine GoC.seq ?_
 refine GoC.seq ?_
 refine GoC.region ?_
 refine GoO.pure (ps_move rfl rfl) ?_
 refine GoO.pure (ps_geq rfl rfl rfl) ?_
 refine GoO.nil ?_
 refine GoK.code ?_
 refine GoC.condD rfl (fun h26 => ?_) (fun h26 => ?_)
 replace H := ite_t h26 H
 refine GoC.skip ?_
 refine GoK.code ?_
 refine GoC.seq ?_
 refine GoC.block ?_
 refine GoC.seq ?_
 refine GoC.drawP (.q 0 (.q 1 (.q 2 (.q 3 (.q 4 (.q 5 (.q 6 (.q 7 (.q 8 (.q 9 (.q 10 (.q 12 (.q 13 (.q 14 (.two 11 15 (.one 15 (.q 16 (.one 17 (.q 18 (.one 19 (.done)))))) (.one 11 (.q 16 (.one 17 (.q 18 (.one 19 (.done))))))))))))))))))))) [] follows (by kernel_rfl) (Take.nil _) ?_
 refine GoP.qN rfl (ps_move rfl rfl) ?_
 refine GoP.qN rfl (ps_move rfl rfl) ?_
 refine GoP.qN rfl (ps_move rfl rfl) ?_
 refine GoP.qN rfl (ps_move rfl rfl) ?_
 refine GoP.qN rfl (ps_move rfl rfl) ?_
 have c27 := ck_l H; replace H := ck_r H
 refine GoP.qN rfl (ps_add rfl rfl rfl c27) ?_
 refine GoP.qN rfl (ps_move rfl rfl) ?_
 refine GoP.qN rfl (ps_move rfl rfl) ?_
 refine GoP.qN rfl (ps_move rfl rfl) ?_
 refine GoP.qN rfl (ps_add rfl rfl rfl c27) ?_
 have c28 := ck_l H; replace H := ck_r H
 refine GoP.qN rfl (ps_indexAddr0 rfl rfl c28 rfl) ?_
 refine GoP.qN rfl (ps_move rfl rfl) ?_
 refine GoP.qN rfl (ps_move rfl rfl) ?_
 have c29 := ck_l H; replace H := ck_r H
 refine GoP.qN rfl (ps_indexAddr0 rfl rfl c29 rfl) ?_
 apply GoP.fork0
 exact rfl
 exact rfl
 exact trivial
 exact trivial
 exact Eff.pure (H1 := [.one βp0 3 1 (row l18)]) (ps_load rfl At.p0 At.p0 (idx_lt c28) rfl rfl)
 exact Eff.pure (H1 := [.one βp0 3 1 (row l18)]) (ps_load rfl At.p0 At.p0 (idx_lt c29) rfl rfl)
 exact (Take.nil _)
 exact (Take.nil _)
 intro hQ
 rintro _ rfl
 refine GoP.oneN rfl (ps_load rfl At.p0 At.p0 (idx_lt c29) rfl rfl) (Take.nil _) ?_
 refine GoP.qN rfl (ps_indexAddr0 rfl rfl c29 rfl) ?_
 refine GoP.one1 rfl trivial (ef_store rfl rfl rfl At.p0 (upd_row1 (v := (l18.getD ((p1 + x19).toNat) (0 : Int))) rfl) (idx_lt c29) rfl) (Take.cons _ _ _ _ _ Rem.p0 (Take.nil _)) ?_
 refine GoP.qN rfl (ps_indexAddr0 rfl rfl c28 rfl) ?_
 refine GoP.one1 rfl trivial (ef_store rfl rfl rfl At.p0 (upd_row1 (v := (l18.getD p1.toNat (0 : Int))) rfl) (lt_len (idx_lt c28) (by first | rfl | omega | (simp only [row_len, gridC_len, rowO_len, List.length_set] <;> first | rfl | omega))) rfl) (Take.cons _ _ _ _ _ Rem.p0 (Take.nil _)) ?_
 exact GoP.done (hQ)
 intro hQ
 rintro _ rfl
 refine GoP.oneN rfl (ps_load rfl At.p0 At.p0 (idx_lt c28) rfl rfl) (Take.nil _) ?_
 refine GoP.qN rfl (ps_indexAddr0 rfl rfl c29 rfl) ?_
 refine GoP.one1 rfl trivial (ef_store rfl rfl rfl At.p0 (upd_row1 (v := (l18.getD ((p1 + x19).toNat) (0 : Int))) rfl) (idx_lt c29) rfl) (Take.cons _ _ _ _ _ Rem.p0 (Take.nil _)) ?_
 refine GoP.qN rfl (ps_indexAddr0 rfl rfl c28 rfl) ?_
 refine GoP.one1 rfl trivial (ef_store rfl rfl rfl At.p0 (upd_row1 (v := (l18.getD p1.toNat (0 : Int))) rfl) (lt_len (idx_lt c28) (by first | rfl | omega | (simp only [row_len, gridC_len, rowO_len, List.length_set] <;> first | rfl | omega))) rfl) (Take.cons _ _ _ _ _ Rem.p0 (Take.nil _)) ?_
 refine GoP.done (GoK.le ?_ (hQ))
 refine Le.ofDW ?_ (TkD.cons _ _ _ _ _ Rem.p0 (HLe.refl _) (TkD.nil _))
 repeat (first | exact EnvLeW.nil | refine EnvLeW.cons rfl ?_ | refine EnvLeW.skip rfl ?_)
 refine GoK.code ?_
 refine GoC.region ?_
 refine GoO.pure (ps_move rfl rfl) ?_
 refine GoO.pure (ps_move rfl rfl) ?_
 refine GoO.pure (ps_move rfl rfl) ?_
 refine GoO.pure (ps_move rfl rfl) ?_
 refine GoO.pure (ps_move rfl rfl) ?_
 have hb := bind_l H; clear H
 obtain ⟨l30, e31, H⟩ := hb
 have c32 := ck_l H; replace H := ck_r H
 refine GoO.effC (ef_call rfl (Take.cons _ _ _ _ _ Rem.p0 (Take.nil _)) (Take.nil _) (slices_siftDownCmpFunc_int_gale_Make_c1_spec ((l18.set p1.toNat (l18.getD ((p1 + x19).toNat) (0 : Int))).set ((p1 + x19).toNat) (l18.getD p1.toNat (0 : Int))) 0 x19 p1 c3_0 βp0 e31) (LendL.cons (Lend.ofLe (DLe.len (by first | rfl | omega | (simp only [subl_length, cpl_length, List.length_set, List.length_append, List.length_cons, List.length_nil, List.length_replicate, row_len] <;> first | rfl | omega)))) (LendL.cons (Lend.refl _ _) (LendL.cons (Lend.refl _ _) (LendL.cons (Lend.refl _ _) (LendL.cons (Lend.fn (LendL.cons (Lend.refl _ _) (LendL.nil))) (LendL.nil)))))) rfl (slices_siftDownCmpFunc_int_gale_Make_c1_I (l30) βp0)) (fun rr HH hp => ?_)
 obtain ⟨rfl, rfl⟩ := hp
 refine GoO.nil ?_
 refine GoK.blk ?_
 refine GoK.code ?_
 refine GoC.region ?_
 refine GoO.pure (ps_move rfl rfl) ?_
 have c33 := ck_l H; replace H := ck_r H
 refine GoO.pure (ps_sub rfl rfl rfl c33) ?_
 refine GoO.pure (ps_assign rfl rfl) ?_
 refine GoO.nil ?_
 obtain rfl := Option.some.inj H
 exact GoK.againJ m25' (by omega) ⟨_, _, hF21, rfl, rfl⟩ (EnvD.cons rfl (DLe.len (by first | rfl | omega | (simp only [row_len, gridC_len, rowO_len, c32] <;> first | rfl | omega))) (EnvD.eq rfl (EnvD.eq rfl (EnvD.eq rfl (EnvD.eq rfl (EnvD.nil)))))) (TkD.cons _ _ _ _ _ Rem.p0 (HLe.refl _) (TkD.nil _))
 replace H := ite_f h26 H
 refine GoC.exit rfl ?_
 obtain rfl := Option.some.inj H
 obtain rfl := Option.some.inj hF21
 exact GoK.meet ⟨_, _, rfl, rfl, rfl⟩ (EnvD.nil) (TkD.cons _ _ _ _ _ Rem.p0 (HLe.refl _) (TkD.nil _))
 rintro v h ⟨l23, x24, rfl, rfl, rfl⟩
 have H := HK20; clear HK20
 obtain rfl := Option.some.inj H
 exact GoK.retL (ds := []) Try.results93 (ResL.nil) (Take.cons _ _ _ _ _ Rem.p0 (Take.nil _)) ⟨rfl, rfl⟩

def slices_pdqsortCmpFunc_int_gale_Make_c1_B1 (p0 : (List Int)) (p1 : Int) (p2 : Int) (p3 : Int) (c4_0 : (List Int)) : Unit → Option (Ct (Unit) ((List Int))) := fun _ =>
 ck (InI (p2 - p1)) <|
 if (p2 - p1) ≤ 12 then
  (slices_insertionSortCmpFunc_int_gale_Make_c1_F p0 p1 p2 c4_0).bind fun l7 =>
  ck (l7.length = p0.length) <|
  some (.ret l7)
 else
  if p3 = 0 then
   (slices_heapSortCmpFunc_int_gale_Make_c1_F p0 p1 p2 c4_0).bind fun l11 =>
   ck (l11.length = p0.length) <|
   some (.ret l11)
  else
   ((
    some ()) : Option (Unit)).bind fun () =>
   none
def slices_pdqsortCmpFunc_int_gale_Make_c1_S (rec : (List Int) → Int → Int → Int → (List Int) → Option ((List Int))) (p0 : (List Int)) (p1 : Int) (p2 : Int) (p3 : Int) (c4_0 : (List Int)) : Option ((List Int)) :=
 (loopC (slices_pdqsortCmpFunc_int_gale_Make_c1_B1 p0 p1 p2 p3 c4_0) 1000000 ()).bind fun q => match q with
 | .go _ =>
  none
 | .ret x => some x
def slices_pdqsortCmpFunc_int_gale_Make_c1_F : Nat → (List Int) → Int → Int → Int → (List Int) → Option ((List Int))
 | 0 => fun _ _ _ _ _ => none
 | fuel + 1 => slices_pdqsortCmpFunc_int_gale_Make_c1_S (slices_pdqsortCmpFunc_int_gale_Make_c1_F fuel)
def slices_pdqsortCmpFunc_int_gale_Make_c1_P (out : (List Int)) (βp0 : BK) (d : D) (H : List HL) : Prop := d = .tp 0 (nth []) ∧ H = [.one βp0 3 1 (row out)]
theorem slices_pdqsortCmpFunc_int_gale_Make_c1_I (out : (List Int)) (βp0 : BK) : IndepP (slices_pdqsortCmpFunc_int_gale_Make_c1_P out βp0) := IndepP.of (by rintro _ _ ⟨rfl, rfl⟩; exact ⟨inferInstance, inferInstance⟩)
set_option maxRecDepth 100000 in
set_option maxHeartbeats 4000000 in
theorem slices_pdqsortCmpFunc_int_gale_Make_c1_spec : ∀ (fuel : Nat) (p0 : (List Int)) (p1 : Int) (p2 : Int) (p3 : Int) (c4_0 : (List Int)) (βp0 : BK) {out : (List Int)} (H : slices_pdqsortCmpFunc_int_gale_Make_c1_F fuel p0 p1 p2 p3 c4_0 = some out), Does Try.prog 69 [.own βp0 1 0 p0.length, .v (.int .i64 p1), .v (.int .i64 p2), .v (.int .i64 p3), .fn 51 1 (nth [.rp 1 1 (row [c4_0]).get 0 0])] [.one βp0 3 1 (row p0)] (slices_pdqsortCmpFunc_int_gale_Make_c1_P out βp0) := by
 intro fuel
 induction fuel with
 | zero => intro p0 p1 p2 p3 c4_0 βp0 out H; cases H
 | succ fuel ih =>
 intro p0 p1 p2 p3 c4_0 βp0 out H
 replace H : slices_pdqsortCmpFunc_int_gale_Make_c1_S (slices_pdqsortCmpFunc_int_gale_Make_c1_F fuel) p0 p1 p2 p3 c4_0 = some out := H
 generalize slices_pdqsortCmpFunc_int_gale_Make_c1_F fuel = rec at ih H
 unfold slices_pdqsortCmpFunc_int_gale_Make_c1_S at H
 refine Does.intro Try.func69 rfl Try.ntmps69 rfl fun w0 I0 => ?_
 refine GoC.seq ?_
 refine GoC.region ?_
 refine GoO.pure (ps_assign rfl rfl) ?_
 refine GoO.nil ?_
 refine GoK.code ?_
 refine GoC.seq ?_
 refine GoC.region ?_
 refine GoO.pure (ps_assign rfl rfl) ?_
 refine GoO.nil ?_
 refine GoK.code ?_
 have hb := bind_l H; clear H
 obtain ⟨q3, hl16, HK1⟩ := hb
 refine GoC.blockJ [] [.one βp0 3 1 (row p0)] (fun v h => q3 = .go () ∧ v = [] ∧ h = []) ?_ ?_
 refine GoC.loopJ [(0, _), (1, _), (2, _), (3, _), (4, _), (10, _), (11, _)] [.one βp0 3 1 (row p0)] (fun mQ v h => loopC (slices_pdqsortCmpFunc_int_gale_Make_c1_B1 p0 p1 p2 p3 c4_0) mQ () = some q3 ∧ v = [] ∧ h = []) 1000000 ⟨hl16, rfl, rfl⟩ (EnvD.eq rfl (EnvD.eq rfl (EnvD.eq rfl (EnvD.eq rfl (EnvD.eq rfl (EnvD.eq rfl (EnvD.eq rfl (EnvD.nil)))))))) (TkD.cons _ _ _ _ _ Rem.p0 (HLe.refl _) (TkD.nil _)) ?_
 rintro m4 v h ⟨hF2, rfl, rfl⟩
 obtain ⟨m4', rfl⟩ | rfl : (∃ x, m4 = x + 1) ∨ m4 = 0 := by cases m4 <;> simp
 case inr => cases hF2
 have hb := bind_l hF2; clear hF2
 obtain ⟨qrm4, H, hF2⟩ := hb
 refine GoC.block ?_
 refine GoC.seq ?_
 refine GoC.region ?_
 refine GoO.pure (ps_move rfl rfl) ?_
 refine GoO.pure (ps_move rfl rfl) ?_
 have c5 := ck_l H; replace H := ck_r H
 refine GoO.pure (ps_sub rfl rfl rfl c5) ?_
 refine GoO.pure (ps_assign rfl rfl) ?_
 refine GoO.nil ?_
 refine GoK.code ?_
 refine GoC.seq ?_
 refine GoC.seq ?_
 refine GoC.region ?_
 refine GoO.pure (ps_move rfl rfl) ?_
 refine GoO.pure (ps_leq rfl rfl rfl) ?_
 refine GoO.nil ?_
 refine GoK.code ?_
 refine GoC.condD rfl (fun h6 => ?_) (fun h6 => ?_)
 replace H := ite_t h6 H
 refine GoC.seq ?_
 refine GoC.region ?_
 refine GoO.pure (ps_move rfl rfl) ?_
 refine GoO.pure (ps_move rfl rfl) ?_
 refine GoO.pure (ps_move rfl rfl) ?_
 refine GoO.pure (ps_move rfl rfl) ?_
 have hb := bind_l H; clear H
 obtain ⟨l7, e8, H⟩ := hb
 have c9 := ck_l H; replace H := ck_r H
 refine GoO.effC (ef_call rfl (Take.cons _ _ _ _ _ Rem.p0 (Take.nil _)) (Take.nil _) (slices_insertionSortCmpFunc_int_gale_Make_c1_spec p0 p1 p2 c4_0 βp0 e8) (LendL.cons (Lend.refl _ _) (LendL.cons (Lend.refl _ _) (LendL.cons (Lend.refl _ _) (LendL.cons (Lend.fn (LendL.cons (Lend.refl _ _) (LendL.nil))) (LendL.nil))))) rfl (slices_insertionSortCmpFunc_int_gale_Make_c1_I (l7) βp0)) (fun rr HH hp => ?_)
 obtain ⟨rfl, rfl⟩ := hp
 refine GoO.nil ?_
 refine GoK.code ?_
 obtain rfl := Option.some.inj H
 obtain rfl := Option.some.inj hF2
 obtain rfl := Option.some.inj HK1
 exact GoC.retL (ds := []) Try.results69 (ResL.nil) (Take.cons _ _ _ _ _ Rem.p0 (Take.nil _)) ⟨rfl, rfl⟩
 replace H := ite_f h6 H
 refine GoC.skip ?_
 refine GoK.code ?_
 refine GoC.seq ?_
 refine GoC.seq ?_
 refine GoC.region ?_
 refine GoO.pure (ps_move rfl rfl) ?_
 refine GoO.pure (ps_eql rfl rfl rfl) ?_
 refine GoO.nil ?_
 refine GoK.code ?_
 refine GoC.condD rfl (fun h10 => ?_) (fun h10 => ?_)
 replace H := ite_t h10 H
 refine GoC.seq ?_
 refine GoC.region ?_
 refine GoO.pure (ps_move rfl rfl) ?_
 refine GoO.pure (ps_move rfl rfl) ?_
 refine GoO.pure (ps_move rfl rfl) ?_
 refine GoO.pure (ps_move rfl rfl) ?_
 have hb := bind_l H; clear H
 obtain ⟨l11, e12, H⟩ := hb
 have c13 := ck_l H; replace H := ck_r H
 refine GoO.effC (ef_call rfl (Take.cons _ _ _ _ _ Rem.p0 (Take.nil _)) (Take.nil _) (slices_heapSortCmpFunc_int_gale_Make_c1_spec p0 p1 p2 c4_0 βp0 e12) (LendL.cons (Lend.refl _ _) (LendL.cons (Lend.refl _ _) (LendL.cons (Lend.refl _ _) (LendL.cons (Lend.fn (LendL.cons (Lend.refl _ _) (LendL.nil))) (LendL.nil))))) rfl (slices_heapSortCmpFunc_int_gale_Make_c1_I (l11) βp0)) (fun rr HH hp => ?_)
 obtain ⟨rfl, rfl⟩ := hp
 refine GoO.nil ?_
 refine GoK.code ?_
 obtain rfl := Option.some.inj H
 obtain rfl := Option.some.inj hF2
 obtain rfl := Option.some.inj HK1
 exact GoC.retL (ds := []) Try.results69 (ResL.nil) (Take.cons _ _ _ _ _ Rem.p0 (Take.nil _)) ⟨rfl, rfl⟩
 replace H := ite_f h10 H
 refine GoC.skip ?_
 refine GoK.code ?_
 have hb := bind_l H; clear H
 obtain ⟨⟨⟩, H, HK14⟩ := hb
 refine GoC.seqJ [(0, .own βp0 1 0 p0.length), (1, .v (.int .i64 p1)), (2, .v (.int .i64 p2)), (3, .v (.int .i64 p3)), (4, .fn 51 1 (nth [.rp 1 1 (row [c4_0]).get 0 0])), (10, .v (.bool true)), (11, .v (.bool true)), (12, .v (.int .i64 (p2 - p1)))] [.one βp0 3 1 (row p0)] (fun v h => v = [] ∧ h = []) ?_ ?_
 refine GoC.seq ?_
 refine GoC.region ?_
 refine GoO.pure (ps_move rfl rfl) ?_
 refine GoO.pure (ps_not rfl rfl) ?_
 refine GoO.nil ?_
 refine GoK.code ?_
 refine GoC.condF rfl ?_
 refine GoC.skip ?_
 cases H
 exact GoK.meet ⟨rfl, rfl⟩ (EnvD.eq rfl (EnvD.eq rfl (EnvD.eq rfl (EnvD.eq rfl (EnvD.eq rfl (EnvD.eq rfl (EnvD.eq rfl (EnvD.eq rfl (EnvD.nil))))))))) (TkD.cons _ _ _ _ _ Rem.p0 (HLe.refl _) (TkD.nil _))
 rintro v h ⟨rfl, rfl⟩
 have H := HK14; clear HK14
 refine GoC.seq ?_
 refine GoC.region ?_
 refine GoO.pure (ps_move rfl rfl) ?_
 refine GoO.pure (ps_move rfl rfl) ?_
 refine GoO.pure (ps_move rfl rfl) ?_
 refine GoO.pure (ps_move rfl rfl) ?_
 cases H
 rintro v h ⟨rfl, rfl, rfl⟩
 have H := HK1; clear HK1
 cases H

def slices_SortFunc_int_gale_Make_c1_F (p0 : (List Int)) (c1_0 : (List Int)) : Option ((List Int)) :=
 (bits_Len_F (IntKind.u64.wrap ((p0.length : Nat) : Int))).bind fun r2 =>
 (slices_pdqsortCmpFunc_int_gale_Make_c1_F 100 p0 0 ((p0.length : Nat) : Int) r2 c1_0).bind fun l4 =>
 ck (l4.length = p0.length) <|
 some l4
def slices_SortFunc_int_gale_Make_c1_P (out : (List Int)) (βp0 : BK) (d : D) (H : List HL) : Prop := d = .tp 0 (nth []) ∧ H = [.one βp0 3 1 (row out)]
theorem slices_SortFunc_int_gale_Make_c1_I (out : (List Int)) (βp0 : BK) : IndepP (slices_SortFunc_int_gale_Make_c1_P out βp0) := IndepP.of (by rintro _ _ ⟨rfl, rfl⟩; exact ⟨inferInstance, inferInstance⟩)
set_option maxRecDepth 100000 in
set_option maxHeartbeats 4000000 in
theorem slices_SortFunc_int_gale_Make_c1_spec (p0 : (List Int)) (c1_0 : (List Int)) (βp0 : BK) {out : (List Int)} (H : slices_SortFunc_int_gale_Make_c1_F p0 c1_0 = some out) : Does Try.prog 50 [.own βp0 1 0 p0.length, .fn 51 1 (nth [.rp 1 1 (row [c1_0]).get 0 0])] [.one βp0 3 1 (row p0)] (slices_SortFunc_int_gale_Make_c1_P out βp0) := by
 unfold slices_SortFunc_int_gale_Make_c1_F at H
 refine Does.intro Try.func50 rfl Try.ntmps50 rfl fun w0 I0 => ?_
 refine GoC.seq ?_
 refine GoC.region ?_
 refine GoO.pure (ps_move rfl rfl) ?_
 refine GoO.pure (ps_len rfl (by constructor) rfl) ?_
 refine GoO.lenLe (n := p0.length) (x := .tmp 5) rfl (by constructor) own_lenLe (fun ml1 => ?_)
 refine GoO.pure (ps_assign rfl rfl) ?_
 refine GoO.nil ?_
 refine GoK.code ?_
 refine GoC.region ?_
 refine GoO.pure (ps_move rfl rfl) ?_
 refine GoO.pure (ps_move rfl rfl) ?_
 refine GoO.pure (ps_move rfl rfl) ?_
 refine GoO.pure (ps_convK rfl rfl) ?_
 have hb := bind_l H; clear H
 obtain ⟨r2, e3, H⟩ := hb
 refine GoO.effC (ef_call rfl (Take.nil _) (Take.nil _) (bits_Len_spec (IntKind.u64.wrap ((p0.length : Nat) : Int)) e3) (LendL.cons (Lend.refl _ _) (LendL.nil)) rfl (bits_Len_I (r2))) (fun rr HH hp => ?_)
 obtain ⟨rfl, rfl⟩ := hp
 refine GoO.pure (ps_move rfl rfl) ?_
 have hb := bind_l H; clear H
 obtain ⟨l4, e5, H⟩ := hb
 have c6 := ck_l H; replace H := ck_r H
 refine GoO.effC (ef_call rfl (Take.cons _ _ _ _ _ Rem.p0 (Take.nil _)) (Take.nil _) (slices_pdqsortCmpFunc_int_gale_Make_c1_spec 100 p0 0 ((p0.length : Nat) : Int) r2 c1_0 βp0 e5) (LendL.cons (Lend.refl _ _) (LendL.cons (Lend.refl _ _) (LendL.cons (Lend.refl _ _) (LendL.cons (Lend.refl _ _) (LendL.cons (Lend.fn (LendL.cons (Lend.refl _ _) (LendL.nil))) (LendL.nil)))))) rfl (slices_pdqsortCmpFunc_int_gale_Make_c1_I (l4) βp0)) (fun rr HH hp => ?_)
 obtain ⟨rfl, rfl⟩ := hp
 refine GoO.nil ?_
 obtain rfl := Option.some.inj H
 exact GoK.retL (ds := []) Try.results50 (ResL.nil) (Take.cons _ _ _ _ _ Rem.p0 (Take.nil _)) ⟨rfl, rfl⟩

def gale_Make_c2_F (p0 : Int) : Option (Bool) :=
 some (decide (0 < p0))
def gale_Make_c2_P (out : Bool) (d : D) (H : List HL) : Prop := d = .v (.bool out) ∧ H = []
theorem gale_Make_c2_I (out : Bool) : IndepP (gale_Make_c2_P out) := IndepP.of (by rintro _ _ ⟨rfl, rfl⟩; exact ⟨inferInstance, inferInstance⟩)
set_option maxRecDepth 100000 in
set_option maxHeartbeats 4000000 in
theorem gale_Make_c2_spec (p0 : Int) {out : Bool} (H : gale_Make_c2_F p0 = some out) : Does Try.prog 55 [.v (.int .i64 p0)] [] (gale_Make_c2_P out) := by
 unfold gale_Make_c2_F at H
 refine Does.intro Try.func55 rfl Try.ntmps55 rfl fun w0 I0 => ?_
 refine GoC.seq ?_
 refine GoC.region ?_
 refine GoO.pure (ps_assign rfl rfl) ?_
 refine GoO.nil ?_
 refine GoK.code ?_
 refine GoC.seq ?_
 refine GoC.region ?_
 refine GoO.pure (ps_move rfl rfl) ?_
 refine GoO.pure (ps_gtr rfl rfl rfl) ?_
 refine GoO.pure (ps_assign rfl rfl) ?_
 refine GoO.nil ?_
 refine GoK.code ?_
 obtain rfl := Option.some.inj H
 exact GoC.retL (ds := [.v (.bool (decide (0 < p0)))]) Try.results55 (ResL.cons (ResD.tmp rfl) (ResL.nil)) (Take.nil _) ⟨rfl, rfl⟩

def slices_IndexFunc_int_gale_Make_c2_B1 (p0 : (List Int)) : Nat → Unit → Option (Ct (Unit) (Int)) := fun k5 _ =>
 (gale_Make_c2_F (p0.getD k5 (0 : Int))).bind fun r7 =>
 if r7 = true then
  some (.ret ((k5 : Nat) : Int))
 else
  some (.go ())
def slices_IndexFunc_int_gale_Make_c2_F (p0 : (List Int)) : Option (Int) :=
 (forC (slices_IndexFunc_int_gale_Make_c2_B1 p0) p0.length 0 ()).bind fun q => match q with
 | .go _ =>
  some (-1)
 | .ret x => some x
def slices_IndexFunc_int_gale_Make_c2_P (out : Int) (d : D) (H : List HL) : Prop := d = .v (.int .i64 out) ∧ H = []
theorem slices_IndexFunc_int_gale_Make_c2_I (out : Int) : IndepP (slices_IndexFunc_int_gale_Make_c2_P out) := IndepP.of (by rintro _ _ ⟨rfl, rfl⟩; exact ⟨inferInstance, inferInstance⟩)
set_option maxRecDepth 100000 in
set_option maxHeartbeats 4000000 in
theorem slices_IndexFunc_int_gale_Make_c2_spec (p0 : (List Int)) {out : Int} (H : slices_IndexFunc_int_gale_Make_c2_F p0 = some out) : Does Try.prog 71 [slD p0, .fn 55 0 (nth [])] [] (slices_IndexFunc_int_gale_Make_c2_P out) := by
 unfold slices_IndexFunc_int_gale_Make_c2_F at H
 refine Does.intro Try.func71 rfl Try.ntmps71 rfl fun w0 I0 => ?_
 refine GoC.seq ?_
 refine GoC.region ?_
 refine GoO.pure (ps_assign rfl rfl) ?_
 refine GoO.nil ?_
 refine GoK.code ?_
 refine GoC.seq ?_
 refine GoC.seq ?_
 refine GoC.region ?_
 refine GoO.pure (ps_move rfl rfl) ?_
 refine GoO.pure (ps_len rfl (by constructor) rfl) ?_
 refine GoO.lenLe (n := p0.length) (x := .tmp 6) rfl (by constructor) sl_lenLe (fun ml1 => ?_)
 refine GoO.pure (ps_move rfl rfl) ?_
 refine GoO.nil ?_
 refine GoK.code ?_
 have hb := bind_l H; clear H
 obtain ⟨q4, hl10, HK2⟩ := hb
 refine GoC.blockJ [] [] (fun v h => q4 = .go () ∧ v = [] ∧ h = []) ?_ ?_
 refine GoC.loopJ [(0, _), (1, _), (7, _)] [] (fun mQ v h => ∃ (k5 : Nat), (k5 + mQ = p0.length ∧ forC (slices_IndexFunc_int_gale_Make_c2_B1 p0) mQ k5 () = some q4) ∧ v = [(8, .v (.int .i64 ((k5 : Nat) : Int)))] ∧ h = []) p0.length ⟨_, ⟨by omega, hl10⟩, rfl, rfl⟩ (EnvD.eq rfl (EnvD.eq rfl (EnvD.eq rfl (EnvD.eq rfl (EnvD.nil))))) (TkD.nil _) ?_
 rintro m6 v h ⟨k5, ⟨hkk5, hF3⟩, rfl, rfl⟩
 refine GoC.seq ?_
 refine GoC.region ?_
 refine GoO.pure (ps_lss rfl rfl rfl) ?_
 refine GoO.nil ?_
 refine GoK.code ?_
 refine GoC.seq ?_
 refine GoC.condD rfl (fun (hk5 : (k5 : Int) < ((p0.length : Nat) : Int)) => ?_) (fun (hk5 : ¬ (k5 : Int) < ((p0.length : Nat) : Int)) => ?_)
 obtain ⟨m6', rfl⟩ : ∃ x, m6 = x + 1 := ⟨m6 - 1, by omega⟩
 have hb := bind_l hF3; clear hF3
 obtain ⟨qrm6, H, hF3⟩ := hb
 have hnk5 : k5 < p0.length := by omega
 have hIk5 : InI ((k5 : Int) + 1) := inI_len hk5 ml1
 refine GoC.skip ?_
 refine GoK.code ?_
 refine GoC.seq ?_
 refine GoC.block ?_
 refine GoC.seq ?_
 refine GoC.region ?_
 refine GoO.pure (ps_move rfl rfl) ?_
 refine GoO.pure (ps_assign rfl rfl) ?_
 refine GoO.nil ?_
 refine GoK.code ?_
 refine GoC.seq ?_
 refine GoC.region ?_
 refine GoO.pure (ps_move rfl rfl) ?_
 refine GoO.pure (ps_move rfl rfl) ?_
 refine GoO.pure (ps_move rfl rfl) ?_
 refine GoO.pure (ps_indexAddrRN rfl rfl hnk5 rfl) ?_
 refine GoO.pure (ps_loadR rfl hnk5 rfl rfl) ?_
 have hb := bind_l H; clear H
 obtain ⟨r7, e8, H⟩ := hb
 refine GoO.effC (ef_callv rfl rfl rfl (Take.nil _) (Take.nil _) (gale_Make_c2_spec (p0.getD k5 (0 : Int)) e8) (LendL.cons (Lend.refl _ _) (LendL.nil)) rfl (gale_Make_c2_I (r7))) (fun rr HH hp => ?_)
 obtain ⟨rfl, rfl⟩ := hp
 refine GoO.nil ?_
 refine GoK.code ?_
 refine GoC.cond rfl (fun h9 => ?_) (fun h9 => ?_)
 replace H := itb_t h9 H
 refine GoC.seq ?_
 refine GoC.region ?_
 refine GoO.pure (ps_move rfl rfl) ?_
 refine GoO.pure (ps_assign rfl rfl) ?_
 refine GoO.nil ?_
 refine GoK.code ?_
 obtain rfl := Option.some.inj H
 obtain rfl := Option.some.inj hF3
 obtain rfl := Option.some.inj HK2
 exact GoC.retL (ds := [.v (.int .i64 ((k5 : Nat) : Int))]) Try.results71 (ResL.cons (ResD.tmp rfl) (ResL.nil)) (Take.nil _) ⟨rfl, rfl⟩
 replace H := itb_f h9 H
 refine GoC.skip ?_
 refine GoK.blk ?_
 refine GoK.code ?_
 refine GoC.region ?_
 refine GoO.pure (ps_add rfl rfl rfl hIk5) ?_
 refine GoO.pure (ps_move rfl rfl) ?_
 refine GoO.nil ?_
 obtain rfl := Option.some.inj H
 exact GoK.againJ m6' (by omega) ⟨_, ⟨by omega, hF3⟩, rfl, rfl⟩ (EnvD.eq rfl (EnvD.eq rfl (EnvD.eq rfl (EnvD.eq rfl (EnvD.nil))))) (TkD.nil _)
 obtain rfl : m6 = 0 := by omega
 refine GoC.exit rfl ?_
 cases hF3
 exact GoK.meet ⟨rfl, rfl, rfl⟩ (EnvD.nil) (TkD.nil _)
 rintro v h ⟨rfl, rfl, rfl⟩
 have H := HK2; clear HK2
 refine GoK.code ?_
 refine GoC.seq ?_
 refine GoC.region ?_
 refine GoO.pure (ps_assign rfl rfl) ?_
 refine GoO.nil ?_
 refine GoK.code ?_
 obtain rfl := Option.some.inj H
 exact GoC.retL (ds := [.v (.int .i64 (-1))]) Try.results71 (ResL.cons (ResD.tmp rfl) (ResL.nil)) (Take.nil _) ⟨rfl, rfl⟩

def slices_ContainsFunc_int_gale_Make_c2_F (p0 : (List Int)) : Option (Bool) :=
 (slices_IndexFunc_int_gale_Make_c2_F p0).bind fun r1 =>
 some (decide (0 ≤ r1))
def slices_ContainsFunc_int_gale_Make_c2_P (out : Bool) (d : D) (H : List HL) : Prop := d = .v (.bool out) ∧ H = []
theorem slices_ContainsFunc_int_gale_Make_c2_I (out : Bool) : IndepP (slices_ContainsFunc_int_gale_Make_c2_P out) := IndepP.of (by rintro _ _ ⟨rfl, rfl⟩; exact ⟨inferInstance, inferInstance⟩)
set_option maxRecDepth 100000 in
set_option maxHeartbeats 4000000 in
theorem slices_ContainsFunc_int_gale_Make_c2_spec (p0 : (List Int)) {out : Bool} (H : slices_ContainsFunc_int_gale_Make_c2_F p0 = some out) : Does Try.prog 54 [slD p0, .fn 55 0 (nth [])] [] (slices_ContainsFunc_int_gale_Make_c2_P out) := by
 unfold slices_ContainsFunc_int_gale_Make_c2_F at H
 refine Does.intro Try.func54 rfl Try.ntmps54 rfl fun w0 I0 => ?_
 refine GoC.seq ?_
 refine GoC.region ?_
 refine GoO.pure (ps_assign rfl rfl) ?_
 refine GoO.nil ?_
 refine GoK.code ?_
 refine GoC.seq ?_
 refine GoC.region ?_
 refine GoO.pure (ps_move rfl rfl) ?_
 refine GoO.pure (ps_move rfl rfl) ?_
 have hb := bind_l H; clear H
 obtain ⟨r1, e2, H⟩ := hb
 refine GoO.effC (ef_call rfl (Take.nil _) (Take.nil _) (slices_IndexFunc_int_gale_Make_c2_spec p0 e2) (LendL.cons (Lend.refl _ _) (LendL.cons (Lend.fn (LendL.nil)) (LendL.nil))) rfl (slices_IndexFunc_int_gale_Make_c2_I (r1))) (fun rr HH hp => ?_)
 obtain ⟨rfl, rfl⟩ := hp
 refine GoO.pure (ps_geq rfl rfl rfl) ?_
 refine GoO.pure (ps_assign rfl rfl) ?_
 refine GoO.nil ?_
 refine GoK.code ?_
 obtain rfl := Option.some.inj H
 exact GoC.retL (ds := [.v (.bool (decide (0 ≤ r1)))]) Try.results54 (ResL.cons (ResD.tmp rfl) (ResL.nil)) (Take.nil _) ⟨rfl, rfl⟩

def gale_Make_B2 : Nat → (List Int) → Option ((List Int)) := fun k26 l21 =>
 ck (l21.length + 1 ≤ 17592186044416) <|
 some (l21 ++ ([((k26 : Nat) : Int)] : List Int))
def gale_Make_B3 (rows : (List Int)) (k17 : Nat) (l32 : (List Int)) : Nat → ((List Int) × Int) → Option (Ct ((List Int) × Int) (Ct ((List Int) × (List U16)) ((List U16) × Int))) := fun k46 (l39, x40) =>
 ck (0 ≤ ((subl l32 0 ((rows.getD k17 (0 : Int)).toNat)).getD k46 (0 : Int)) ∧ ((subl l32 0 ((rows.getD k17 (0 : Int)).toNat)).getD k46 (0 : Int)) < ((l39.length : Nat) : Int)) <|
 if (l39.getD (((subl l32 0 ((rows.getD k17 (0 : Int)).toNat)).getD k46 (0 : Int)).toNat) (0 : Int)) = 0 then
  some (.ret (.ret ([], 5)))
 else
  ck (InI ((l39.getD (((subl l32 0 ((rows.getD k17 (0 : Int)).toNat)).getD k46 (0 : Int)).toNat) (0 : Int)) - 1)) <|
  ck (0 ≤ ((subl l32 0 ((rows.getD k17 (0 : Int)).toNat)).getD k46 (0 : Int))) <|
  some (.go ((l39.set (((subl l32 0 ((rows.getD k17 (0 : Int)).toNat)).getD k46 (0 : Int)).toNat) ((l39.getD (((subl l32 0 ((rows.getD k17 (0 : Int)).toNat)).getD k46 (0 : Int)).toNat) (0 : Int)) - 1)), (bitsOf .or .u16 x40 (IntKind.u16.wrap (1 * 2 ^ min (((subl l32 0 ((rows.getD k17 (0 : Int)).toNat)).getD k46 (0 : Int)).toNat) 16)))))
def gale_Make_B1 (rows : (List Int)) (cols : (List Int)) : Nat → ((List Int) × (List U16)) → Option (Ct ((List Int) × (List U16)) ((List U16) × Int)) := fun k17 (l9, l11) =>
 (forN (gale_Make_B2) cols.length 0 []).bind fun l25 =>
 (slices_SortFunc_int_gale_Make_c1_F l25 l9).bind fun l32 =>
 ck (l32.length = l25.length) <|
 ck (0 ≤ (rows.getD k17 (0 : Int))) <|
 ck ((rows.getD k17 (0 : Int)).toNat ≤ l25.length) <|
 (forC (gale_Make_B3 rows k17 l32) ((rows.getD k17 (0 : Int)).toNat) 0 (l9, 0)).bind fun q => match q with
 | .go (l44, x45) =>
  ck (l11.length + 1 ≤ 70368744177664) <|
  some (.go (l44, (l11 ++ ([(⟨x45⟩ : U16)] : List U16))))
 | .ret x => some x
def gale_Make_F (rows : (List Int)) (cols : (List Int)) : Option ((List U16) × Int) :=
 (gale_Check_F rows cols).bind fun r1 =>
 if r1 ≠ 0 then
  some ([], r1)
 else
  (slices_Clone_int_F cols).bind fun r4 =>
  (forC (gale_Make_B1 rows cols) rows.length 0 (r4, [])).bind fun q => match q with
  | .go (l15, l16) =>
   (slices_ContainsFunc_int_gale_Make_c2_F l15).bind fun r57 =>
   if r57 = true then
    some ([], 5)
   else
    some (l16, 0)
  | .ret x => some x
def gale_Make_P (out : (List U16) × Int) (d : D) (H : List HL) : Prop := ∃ β1 : BK, d = .tp 2 (nth [.own β1 1 0 out.1.length, .v (.int .i64 out.2)]) ∧ H = [.one β1 55 1 (row out.1)]
theorem gale_Make_I (out : (List U16) × Int) : IndepP (gale_Make_P out) := IndepP.of (by rintro _ _ ⟨β1, rfl, rfl⟩; exact ⟨inferInstance, inferInstance⟩)
set_option maxRecDepth 100000 in
set_option maxHeartbeats 4000000 in
theorem gale_Make_spec (rows : (List Int)) (cols : (List Int)) {out : (List U16) × Int} (H : gale_Make_F rows cols = some out) : Does Try.prog 23 [slD rows, slD cols] [] (gale_Make_P out) := by
 unfold gale_Make_F at H
 refine Does.intro Try.func23 rfl Try.ntmps23 rfl fun w0 I0 => ?_
 refine GoC.seq ?_
 refine GoC.region ?_
 refine GoO.pure (ps_assign rfl rfl) ?_
 refine GoO.pure (ps_assign rfl rfl) ?_
 refine GoO.nil ?_
 refine GoK.code ?_
 refine GoC.seq ?_
 refine GoC.seq ?_
 refine GoC.region ?_
 refine GoO.pure (ps_move rfl rfl) ?_
 refine GoO.pure (ps_move rfl rfl) ?_
 have hb := bind_l H; clear H
 obtain ⟨r1, e2, H⟩ := hb
 refine GoO.effC (ef_call rfl (Take.nil _) (Take.nil _) (gale_Check_spec rows cols e2) (LendL.cons (Lend.refl _ _) (LendL.cons (Lend.refl _ _) (LendL.nil))) rfl (gale_Check_I (r1))) (fun rr HH hp => ?_)
 obtain ⟨rfl, rfl⟩ := hp
 refine GoO.pure (ps_assign rfl rfl) ?_
 refine GoO.nil ?_
 refine GoK.code ?_
 refine GoC.seq ?_
 refine GoC.region ?_
 refine GoO.pure (ps_move rfl rfl) ?_
 refine GoO.pure (ps_neq rfl rfl rfl) ?_
 refine GoO.nil ?_
 refine GoK.code ?_
 refine GoC.condD rfl (fun h3 => ?_) (fun h3 => ?_)
 replace H := ite_t h3 H
 refine GoC.seq ?_
 refine GoC.region ?_
 refine GoO.pure (ps_move rfl rfl) ?_
 refine GoO.pure (ps_assign rfl rfl) ?_
 refine GoO.pure (ps_assign rfl rfl) ?_
 refine GoO.nil ?_
 refine GoK.code ?_
 obtain rfl := Option.some.inj H
 refine GoC.le (le_row0 55 1 (row ([] : List U16)) rfl) ?_
 exact GoC.retL (ds := [.own ⟨0, 0, 0⟩ 1 0 0, .v (.int .i64 r1)]) Try.results23 (ResL.cons (ResD.le (ResD.tmp rfl) (by exact DLe.nilOwn)) (ResL.cons (ResD.tmp rfl) (ResL.nil))) (Take.cons _ _ _ _ _ Rem.p0 (Take.nil _)) ⟨⟨0, 0, 0⟩, rfl, rfl⟩
 replace H := ite_f h3 H
 refine GoC.skip ?_
 refine GoK.code ?_
 refine GoC.seq ?_
 refine GoC.region ?_
 refine GoO.pure (ps_move rfl rfl) ?_
 have hb := bind_l H; clear H
 obtain ⟨r4, e6, H⟩ := hb
 refine GoO.effC (ef_call rfl (Take.nil _) (Take.nil _) (slices_Clone_int_spec cols e6) (LendL.cons (Lend.refl _ _) (LendL.nil)) rfl (slices_Clone_int_I (r4))) (fun rr HH hp => ?_)
 obtain ⟨β5, rfl, rfl⟩ := hp
 refine GoO.effB (ef_alloc rfl) (fun β7 => ?_)
 refine GoO.eff1 (ef_store rfl rfl rfl At.p0 upd_st1 Nat.zero_lt_one rfl) ?_
 refine GoO.nil ?_
 refine GoK.code ?_
 refine GoC.seq ?_
 refine GoC.region ?_
 refine GoO.pure (ps_assign rfl rfl) ?_
 refine GoO.nil ?_
 refine GoK.code ?_
 refine GoC.seq ?_
 refine GoC.seq ?_
 refine GoC.region ?_
 refine GoO.pure (ps_move rfl rfl) ?_
 refine GoO.pure (ps_len rfl (by constructor) rfl) ?_
 refine GoO.lenLe (n := rows.length) (x := .tmp 24) rfl (by constructor) sl_lenLe (fun ml8 => ?_)
 refine GoO.pure (ps_move rfl rfl) ?_
 refine GoO.nil ?_
 refine GoK.code ?_
 have hb := bind_l H; clear H
 obtain ⟨q14, hl56, HK12⟩ := hb
 refine GoC.blockJ [] [] (fun v h => ∃ (l15 : (List Int)) (l16 : (List U16)) (β10 : BK), q14 = .go (l15, l16) ∧ v = [(7, .ptr β7 1 0 0), (8, .own β10 1 0 l16.length)] ∧ h = [.one β5 3 1 (row l15), .one β7 30 1 (st1 (nth [.own β5 1 0 l15.length])), .one β10 55 1 (row l16)]) ?_ ?_
 refine GoC.loopJ [(1, _), (24, _), (25, _)] [] (fun mQ v h => ∃ (k17 : Nat) (l9 : (List Int)) (l11 : (List U16)) (β10 : BK), (k17 + mQ = rows.length ∧ forC (gale_Make_B1 rows cols) mQ k17 (l9, l11) = some q14) ∧ v = [(26, .v (.int .i64 ((k17 : Nat) : Int))), (7, .ptr β7 1 0 0), (8, .own β10 1 0 l11.length)] ∧ h = [.one β5 3 1 (row l9), .one β7 30 1 (st1 (nth [.own β5 1 0 l9.length])), .one β10 55 1 (row l11)]) rows.length ⟨_, _, _, ⟨0, 0, 0⟩, ⟨by omega, hl56⟩, rfl, rfl⟩ (EnvD.eq rfl (EnvD.eq rfl (EnvD.cons rfl (DLe.nilOwn) (EnvD.eq rfl (EnvD.eq rfl (EnvD.eq rfl (EnvD.nil))))))) (TkD.cons _ _ _ _ _ Rem.p1 (HLe.refl _) (TkD.cons _ _ _ _ _ Rem.p0 (HLe.st ⟨trivial, DLe.len (by first | rfl | omega | (simp only [row_len, gridC_len, rowO_len] <;> first | rfl | omega))⟩) (TkD.no _ _ _ _ _ rfl (TkD.nil _)))) ?_
 rintro m18 v h ⟨k17, l9, l11, β10, ⟨hkk17, hF13⟩, rfl, rfl⟩
 refine GoC.seq ?_
 refine GoC.region ?_
 refine GoO.pure (ps_lss rfl rfl rfl) ?_
 refine GoO.nil ?_
 refine GoK.code ?_
 refine GoC.seq ?_
 refine GoC.condD rfl (fun (hk17 : (k17 : Int) < ((rows.length : Nat) : Int)) => ?_) (fun (hk17 : ¬ (k17 : Int) < ((rows.length : Nat) : Int)) => ?_)
 obtain ⟨m18', rfl⟩ : ∃ x, m18 = x + 1 := ⟨m18 - 1, by omega⟩
 have hb := bind_l hF13; clear hF13
 obtain ⟨qrm18, H, hF13⟩ := hb
 have hnk17 : k17 < rows.length := by omega
 have hIk17 : InI ((k17 : Int) + 1) := inI_len hk17 ml8
 refine GoC.skip ?_
 refine GoK.code ?_
 refine GoC.seq ?_
 refine GoC.block ?_
 refine GoC.seq ?_
 refine GoC.region ?_
 refine GoO.pure (ps_indexAddrRN rfl rfl hnk17 rfl) ?_
 refine GoO.pure (ps_loadR rfl hnk17 rfl rfl) ?_
 refine GoO.pure (ps_assign rfl rfl) ?_
 refine GoO.nil ?_
 refine GoK.code ?_
 refine GoC.seq ?_
 refine GoC.region ?_
 refine GoO.pure (ps_assign rfl rfl) ?_
 refine GoO.nil ?_
 refine GoK.code ?_
 refine GoC.seq ?_
 refine GoC.seq ?_
 refine GoC.region ?_
 refine GoO.pure (ps_move rfl rfl) ?_
 refine GoO.pure (ps_len rfl (by constructor) rfl) ?_
 refine GoO.lenLe (n := cols.length) (x := .tmp 30) rfl (by constructor) sl_lenLe (fun ml19 => ?_)
 refine GoO.pure (ps_move rfl rfl) ?_
 refine GoO.nil ?_
 refine GoK.code ?_
 have hb := bind_l H; clear H
 obtain ⟨l25, hl31, HK22⟩ := hb
 refine GoC.blockJ [(1, slD cols), (7, .ptr β7 1 0 0), (8, .own β10 1 0 l11.length), (10, .v (.int .i64 (rows.getD k17 (0 : Int)))), (24, slD rows), (25, .v (.int .i64 ((rows.length : Nat) : Int))), (26, .v (.int .i64 ((k17 : Nat) : Int)))] [.one β5 3 1 (row l9), .one β7 30 1 (st1 (nth [.own β5 1 0 l9.length])), .one β10 55 1 (row l11)] (fun v h => ∃ (β20 : BK), v = [(11, .own β20 1 0 l25.length)] ∧ h = [.one β20 3 1 (row l25)]) ?_ ?_
 refine GoC.loopJ [(1, _), (7, _), (8, _), (10, _), (24, _), (25, _), (26, _), (31, _)] [.one β5 3 1 (row l9), .one β7 30 1 (st1 (nth [.own β5 1 0 l9.length])), .one β10 55 1 (row l11)] (fun mQ v h => ∃ (k26 : Nat) (l21 : (List Int)) (β20 : BK), (k26 + mQ = cols.length ∧ forN (gale_Make_B2) mQ k26 l21 = some l25) ∧ v = [(32, .v (.int .i64 ((k26 : Nat) : Int))), (11, .own β20 1 0 l21.length)] ∧ h = [.one β20 3 1 (row l21)]) cols.length ⟨_, _, ⟨0, 0, 0⟩, ⟨by omega, hl31⟩, rfl, rfl⟩ (EnvD.eq rfl (EnvD.cons rfl (DLe.nilOwn) (EnvD.eq rfl (EnvD.eq rfl (EnvD.eq rfl (EnvD.eq rfl (EnvD.eq rfl (EnvD.eq rfl (EnvD.eq rfl (EnvD.eq rfl (EnvD.nil))))))))))) (TkD.no _ _ _ _ _ rfl (TkD.cons _ _ _ _ _ Rem.p0 (HLe.refl _) (TkD.cons _ _ _ _ _ Rem.p0 (HLe.st ⟨trivial, DLe.refl _⟩) (TkD.cons _ _ _ _ _ Rem.p0 (HLe.refl _) (TkD.nil _))))) ?_
 rintro m27 v h ⟨k26, l21, β20, ⟨hkk26, hF23⟩, rfl, rfl⟩
 refine GoC.seq ?_
 refine GoC.region ?_
 refine GoO.pure (ps_lss rfl rfl rfl) ?_
 refine GoO.nil ?_
 refine GoK.code ?_
 refine GoC.seq ?_
 refine GoC.condD rfl (fun (hk26 : (k26 : Int) < ((cols.length : Nat) : Int)) => ?_) (fun (hk26 : ¬ (k26 : Int) < ((cols.length : Nat) : Int)) => ?_)
 obtain ⟨m27', rfl⟩ : ∃ x, m27 = x + 1 := ⟨m27 - 1, by omega⟩
 have hb := bind_l hF23; clear hF23
 obtain ⟨qrm27, H, hF23⟩ := hb
 have hnk26 : k26 < cols.length := by omega
 have hIk26 : InI ((k26 : Int) + 1) := inI_len hk26 ml19
 refine GoC.skip ?_
 refine GoK.code ?_
 refine GoC.seq ?_
 refine GoC.block ?_
 refine GoC.seq ?_
 refine GoC.region ?_
 refine GoO.pure (ps_move rfl rfl) ?_
 refine GoO.pure (ps_assign rfl rfl) ?_
 refine GoO.nil ?_
 refine GoK.code ?_
 refine GoC.region ?_
 refine GoO.pure (ps_move rfl rfl) ?_
 refine GoO.pure (ps_move rfl rfl) ?_
 refine GoO.effB (ef_buildSlice (row ([((k26 : Nat) : Int)] : List Int)) rfl (Parts.cons _ _ _ _ _ _ _ _ ⟨rfl, rfl⟩ (Part.one _ rfl rfl) rfl rfl (Parts.nil _)) rfl rfl rfl rfl) (fun β28 => ?_)
 have c30 := ck_l H; replace H := ck_r H
 refine GoO.effB (ef_append rfl rfl Rem.p1 (Src.own At.p0 (by first | omega | (simp only [subl_length, cpl_length, List.length_set, List.length_append, List.length_cons, List.length_nil, List.length_replicate, row_len]; omega) | (simp only [subl_length, cpl_length, List.length_set, List.length_append, List.length_cons, List.length_nil, List.length_replicate, row_len]; done))) (cat_row (α := Int) (by first | rfl | omega | (simp only [subl_length, cpl_length, List.length_set, List.length_append, List.length_cons, List.length_nil, List.length_replicate, row_len] <;> first | rfl | omega)) (by first | rfl | omega | (simp only [subl_length, cpl_length, List.length_set, List.length_append, List.length_cons, List.length_nil, List.length_replicate, row_len] <;> first | rfl | omega)) (fun _ _ _ _ => rfl)) (by first | omega | (simp only [subl_length, cpl_length, List.length_set, List.length_append, List.length_cons, List.length_nil, List.length_replicate, row_len]; omega) | (simp only [subl_length, cpl_length, List.length_set, List.length_append, List.length_cons, List.length_nil, List.length_replicate, row_len]; done)) (app_le c30 rfl) rfl rfl rfl) (fun β29 => ?_)
 refine GoO.pure (ps_assign rfl rfl) ?_
 refine GoO.nil ?_
 refine GoK.blk ?_
 refine GoK.code ?_
 refine GoC.region ?_
 refine GoO.pure (ps_add rfl rfl rfl hIk26) ?_
 refine GoO.pure (ps_move rfl rfl) ?_
 refine GoO.nil ?_
 obtain rfl := Option.some.inj H
 exact GoK.againJ m27' (by omega) ⟨_, _, β29, ⟨by omega, hF23⟩, rfl, rfl⟩ (EnvD.eq rfl (EnvD.cons rfl (DLe.len (by first | rfl | omega | (simp only [row_len, gridC_len, rowO_len, List.length_append, List.length_cons, List.length_nil] <;> first | rfl | omega))) (EnvD.eq rfl (EnvD.eq rfl (EnvD.eq rfl (EnvD.eq rfl (EnvD.eq rfl (EnvD.eq rfl (EnvD.eq rfl (EnvD.eq rfl (EnvD.nil))))))))))) (TkD.cons _ _ _ _ _ Rem.p0 (HLe.refl _) (TkD.cons _ _ _ _ _ Rem.p1 (HLe.refl _) (TkD.cons _ _ _ _ _ Rem.p1 (HLe.st ⟨trivial, DLe.refl _⟩) (TkD.cons _ _ _ _ _ Rem.p1 (HLe.refl _) (TkD.nil _)))))
 obtain rfl : m27 = 0 := by omega
 refine GoC.exit rfl ?_
 cases hF23
 exact GoK.meet ⟨β20, rfl, rfl⟩ (EnvD.cons rfl (DLe.len (by first | rfl | omega | (simp only [row_len, gridC_len, rowO_len] <;> first | rfl | omega))) (EnvD.eq rfl (EnvD.eq rfl (EnvD.eq rfl (EnvD.eq rfl (EnvD.eq rfl (EnvD.eq rfl (EnvD.eq rfl (EnvD.nil))))))))) (TkD.cons _ _ _ _ _ Rem.p0 (HLe.refl _) (TkD.cons _ _ _ _ _ Rem.p0 (HLe.refl _) (TkD.cons _ _ _ _ _ Rem.p0 (HLe.st ⟨trivial, DLe.refl _⟩) (TkD.cons _ _ _ _ _ Rem.p0 (HLe.refl _) (TkD.nil _)))))
 rintro v h ⟨β20, rfl, rfl⟩
 have H := HK22; clear HK22
 refine GoK.code ?_
 refine GoC.seq ?_
 refine GoC.region ?_
 refine GoO.pure (ps_move rfl rfl) ?_
 refine GoO.pure (ps_makeFunc rfl rfl rfl) ?_
 have hb := bind_l H; clear H
 obtain ⟨l32, e33, H⟩ := hb
 have c34 := ck_l H; replace H := ck_r H
 refine GoO.effC (ef_call rfl (Take.cons _ _ _ _ _ Rem.p0 (Take.nil _)) (Take.cons _ _ _ _ _ Rem.p1 (Take.cons _ _ _ _ _ Rem.p0 (Take.nil _))) (slices_SortFunc_int_gale_Make_c1_spec l25 l9 β20 e33) (LendL.cons (Lend.refl _ _) (LendL.cons (Lend.fn (LendL.cons (Lend.box (ds := [.own β5 1 0 l9.length]) At.p0 rfl (by decide) ⟨trivial, rfl⟩ (LendL.cons (Lend.all' At.p1 (by first | rfl | omega | (simp only [subl_length, cpl_length, List.length_set, List.length_append, List.length_cons, List.length_nil, List.length_replicate, row_len] <;> first | rfl | omega)) rfl) (LendL.nil)) ⟨trivial, rfl⟩ rfl) (LendL.nil))) (LendL.nil))) rfl (slices_SortFunc_int_gale_Make_c1_I (l32) β20)) (fun rr HH hp => ?_)
 obtain ⟨rfl, rfl⟩ := hp
 refine GoO.nil ?_
 refine GoK.code ?_
 refine GoC.seq ?_
 refine GoC.region ?_
 refine GoO.pure (ps_assign rfl rfl) ?_
 refine GoO.nil ?_
 refine GoK.code ?_
 refine GoC.seq ?_
 refine GoC.seq ?_
 refine GoC.region ?_
 refine GoO.pure (ps_move rfl rfl) ?_
 refine GoO.pure (ps_move rfl rfl) ?_
 have c35 := ck_l H; replace H := ck_r H
 have c36 := ck_l H; replace H := ck_r H
 refine GoO.pure (ps_slice rfl (Bd.no _) (Bd.int _ _ _ _ rfl c35) (Nat.zero_le _) c36 rfl) ?_
 refine GoO.le (Le.shift At.p0 (by have := c36; first | omega | (simp only [subl_length, cpl_length, List.length_set, List.length_append, List.length_cons, List.length_nil, List.length_replicate, row_len]; omega) | (simp only [subl_length, cpl_length, List.length_set, List.length_append, List.length_cons, List.length_nil, List.length_replicate, row_len, eldI]; omega))) ?_
 refine GoO.le (Le.reH At.p0 (HLe.part (xs := l32) (r := 0 + 0) (len := (rows.getD k17 (0 : Int)).toNat) (by have := c36; first | omega | (simp only [subl_length, cpl_length, List.length_set, List.length_append, List.length_cons, List.length_nil, List.length_replicate, row_len]; omega)))) ?_
 generalize (⟨β20.b, β20.o + (0 + 0) * 1, β20.s - (0 + 0)⟩ : BK) = β37
 refine GoO.pure (ps_len rfl (by constructor) rfl) ?_
 refine GoO.lenLe (n := ((rows.getD k17 (0 : Int)).toNat)) (x := .tmp 45) rfl (by constructor) own_lenLe (fun ml38 => ?_)
 refine GoO.pure (ps_move rfl rfl) ?_
 refine GoO.nil ?_
 refine GoK.code ?_
 have hb := bind_l H; clear H
 obtain ⟨q43, hl52, HK41⟩ := hb
 refine GoC.blockJ [(1, slD cols), (8, .own β10 1 0 l11.length), (24, slD rows), (25, .v (.int .i64 ((rows.length : Nat) : Int))), (26, .v (.int .i64 ((k17 : Nat) : Int)))] [.one β37 3 1 (row (subl l32 0 ((rows.getD k17 (0 : Int)).toNat))), .one β10 55 1 (row l11)] (fun v h => ∃ (l44 : (List Int)) (x45 : Int), q43 = .go (l44, x45) ∧ v = [(7, .ptr β7 1 0 0), (13, .v (.int .u16 x45))] ∧ h = [.one β5 3 1 (row l44), .one β7 30 1 (st1 (nth [.own β5 1 0 l44.length]))]) ?_ ?_
 refine GoC.loopJ [(1, _), (8, _), (24, _), (25, _), (26, _), (45, _), (46, _)] [.one β37 3 1 (row (subl l32 0 ((rows.getD k17 (0 : Int)).toNat))), .one β10 55 1 (row l11)] (fun mQ v h => ∃ (k46 : Nat) (l39 : (List Int)) (x40 : Int), (k46 + mQ = ((rows.getD k17 (0 : Int)).toNat) ∧ forC (gale_Make_B3 rows k17 l32) mQ k46 (l39, x40) = some q43) ∧ v = [(47, .v (.int .i64 ((k46 : Nat) : Int))), (7, .ptr β7 1 0 0), (13, .v (.int .u16 x40))] ∧ h = [.one β5 3 1 (row l39), .one β7 30 1 (st1 (nth [.own β5 1 0 l39.length]))]) ((rows.getD k17 (0 : Int)).toNat) ⟨_, _, _, ⟨by omega, hl52⟩, rfl, rfl⟩ (EnvD.eq rfl (EnvD.eq rfl (EnvD.eq rfl (EnvD.eq rfl (EnvD.eq rfl (EnvD.eq rfl (EnvD.eq rfl (EnvD.eq rfl (EnvD.eq rfl (EnvD.eq rfl (EnvD.nil))))))))))) (TkD.cons _ _ _ _ _ Rem.p1 (HLe.refl _) (TkD.cons _ _ _ _ _ Rem.p1 (HLe.st ⟨trivial, DLe.len (by first | rfl | omega | (simp only [row_len, gridC_len, rowO_len, c34] <;> first | rfl | omega))⟩) (TkD.cons _ _ _ _ _ Rem.p0 (HLe.refl _) (TkD.cons _ _ _ _ _ Rem.p0 (HLe.refl _) (TkD.nil _))))) ?_
 rintro m47 v h ⟨k46, l39, x40, ⟨hkk46, hF42⟩, rfl, rfl⟩
 refine GoC.seq ?_
 refine GoC.region ?_
 refine GoO.pure (ps_lss rfl rfl rfl) ?_
 refine GoO.nil ?_
 refine GoK.code ?_
 refine GoC.seq ?_
 refine GoC.condD rfl (fun (hk46 : (k46 : Int) < ((((rows.getD k17 (0 : Int)).toNat) : Nat) : Int)) => ?_) (fun (hk46 : ¬ (k46 : Int) < ((((rows.getD k17 (0 : Int)).toNat) : Nat) : Int)) => ?_)
 obtain ⟨m47', rfl⟩ : ∃ x, m47 = x + 1 := ⟨m47 - 1, by omega⟩
 have hb := bind_l hF42; clear hF42
 obtain ⟨qrm47, H, hF42⟩ := hb
 have hnk46 : k46 < ((rows.getD k17 (0 : Int)).toNat) := by omega
 have hIk46 : InI ((k46 : Int) + 1) := inI_len hk46 ml38
 refine GoC.skip ?_
 refine GoK.code ?_
 refine GoC.seq ?_
 refine GoC.block ?_
 refine GoC.seq ?_
 refine GoC.region ?_
 refine GoO.pure (ps_indexAddr0N rfl rfl hnk46 rfl) ?_
 refine GoO.pure (ps_load rfl At.p2 At.p2 (lt_len hnk46 (by first | rfl | omega | (simp only [row_len, gridC_len, rowO_len, subl_length, c34] <;> first | rfl | omega))) rfl rfl) ?_
 refine GoO.pure (ps_assign rfl rfl) ?_
 refine GoO.nil ?_
 refine GoK.code ?_
 refine GoC.seq ?_
 refine GoC.seq ?_
 refine GoC.region ?_
 refine GoO.pure (ps_load rfl At.p1 At.p1 Nat.zero_lt_one rfl rfl) ?_
 refine GoO.pure (ps_move rfl rfl) ?_
 have c48 := ck_l H; replace H := ck_r H
 refine GoO.pure (ps_indexAddr0 rfl rfl c48 rfl) ?_
 refine GoO.pure (ps_load rfl At.p0 At.p0 (idx_lt c48) rfl rfl) ?_
 refine GoO.pure (ps_eql rfl rfl rfl) ?_
 refine GoO.nil ?_
 refine GoK.code ?_
 refine GoC.condD rfl (fun h49 => ?_) (fun h49 => ?_)
 replace H := ite_t h49 H
 refine GoC.seq ?_
 refine GoC.region ?_
 refine GoO.pure (ps_assign rfl rfl) ?_
 refine GoO.pure (ps_assign rfl rfl) ?_
 refine GoO.nil ?_
 refine GoK.code ?_
 obtain rfl := Option.some.inj H
 obtain rfl := Option.some.inj hF42
 obtain rfl := Option.some.inj HK41
 obtain rfl := Option.some.inj hF13
 obtain rfl := Option.some.inj HK12
 refine GoC.le (le_row0 55 1 (row ([] : List U16)) rfl) ?_
 exact GoC.retL (ds := [.own ⟨0, 0, 0⟩ 1 0 0, .v (.int .i64 5)]) Try.results23 (ResL.cons (ResD.le (ResD.tmp rfl) (by exact DLe.nilOwn)) (ResL.cons (ResD.tmp rfl) (ResL.nil))) (Take.cons _ _ _ _ _ Rem.p0 (Take.nil _)) ⟨⟨0, 0, 0⟩, rfl, rfl⟩
 replace H := ite_f h49 H
 refine GoC.skip ?_
 refine GoK.code ?_
 refine GoC.seq ?_
 refine GoC.region ?_
 refine GoO.pure (ps_load rfl At.p1 At.p1 Nat.zero_lt_one rfl rfl) ?_
 refine GoO.pure (ps_move rfl rfl) ?_
 refine GoO.pure (ps_indexAddr0 rfl rfl c48 rfl) ?_
 refine GoO.pure (ps_load rfl At.p0 At.p0 (idx_lt c48) rfl rfl) ?_
 have c50 := ck_l H; replace H := ck_r H
 refine GoO.pure (ps_sub rfl rfl rfl c50) ?_
 refine GoO.pure (ps_indexAddr0 rfl rfl c48 rfl) ?_
 refine GoO.eff1 (ef_store rfl rfl rfl At.p0 (upd_row1 (v := ((l39.getD (((subl l32 0 ((rows.getD k17 (0 : Int)).toNat)).getD k46 (0 : Int)).toNat) (0 : Int)) - 1)) rfl) (idx_lt c48) rfl) ?_
 refine GoO.nil ?_
 refine GoK.code ?_
 refine GoC.region ?_
 refine GoO.pure (ps_move rfl rfl) ?_
 refine GoO.pure (ps_move rfl rfl) ?_
 have c51 := ck_l H; replace H := ck_r H
 refine GoO.pure (ps_shl rfl rfl rfl c51) ?_
 refine GoO.pure (ps_or rfl rfl rfl) ?_
 refine GoO.pure (ps_assign rfl rfl) ?_
 refine GoO.nil ?_
 refine GoK.blk ?_
 refine GoK.code ?_
 refine GoC.region ?_
 refine GoO.pure (ps_add rfl rfl rfl hIk46) ?_
 refine GoO.pure (ps_move rfl rfl) ?_
 refine GoO.nil ?_
 obtain rfl := Option.some.inj H
 exact GoK.againJ m47' (by omega) ⟨_, _, _, ⟨by omega, hF42⟩, rfl, rfl⟩ (EnvD.eq rfl (EnvD.eq rfl (EnvD.eq rfl (EnvD.eq rfl (EnvD.eq rfl (EnvD.eq rfl (EnvD.eq rfl (EnvD.eq rfl (EnvD.eq rfl (EnvD.eq rfl (EnvD.nil))))))))))) (TkD.cons _ _ _ _ _ Rem.p0 (HLe.refl _) (TkD.cons _ _ _ _ _ Rem.p0 (HLe.st ⟨trivial, DLe.len (by first | rfl | omega | (simp only [row_len, gridC_len, rowO_len, List.length_set, subl_length, c34] <;> first | rfl | omega))⟩) (TkD.cons _ _ _ _ _ Rem.p0 (HLe.refl _) (TkD.cons _ _ _ _ _ Rem.p0 (HLe.refl _) (TkD.nil _)))))
 obtain rfl : m47 = 0 := by omega
 refine GoC.exit rfl ?_
 cases hF42
 exact GoK.meet ⟨_, _, rfl, rfl, rfl⟩ (EnvD.eq rfl (EnvD.eq rfl (EnvD.eq rfl (EnvD.eq rfl (EnvD.eq rfl (EnvD.eq rfl (EnvD.eq rfl (EnvD.nil)))))))) (TkD.cons _ _ _ _ _ Rem.p0 (HLe.refl _) (TkD.cons _ _ _ _ _ Rem.p0 (HLe.st ⟨trivial, DLe.len (by first | rfl | omega | (simp only [row_len, gridC_len, rowO_len, c34] <;> first | rfl | omega))⟩) (TkD.cons _ _ _ _ _ Rem.p0 (HLe.refl _) (TkD.cons _ _ _ _ _ Rem.p0 (HLe.refl _) (TkD.nil _)))))
 rintro v h ⟨l44, x45, rfl, rfl, rfl⟩
 have H := HK41; clear HK41
 refine GoK.code ?_
 refine GoC.region ?_
 refine GoO.pure (ps_move rfl rfl) ?_
 refine GoO.pure (ps_move rfl rfl) ?_
 refine GoO.effB (ef_buildSlice (row ([(⟨x45⟩ : U16)] : List U16)) rfl (Parts.cons _ _ _ _ _ _ _ _ ⟨rfl, rfl⟩ (Part.one _ rfl rfl) rfl rfl (Parts.nil _)) rfl rfl rfl rfl) (fun β53 => ?_)
 have c55 := ck_l H; replace H := ck_r H
 refine GoO.effB (ef_append rfl rfl Rem.p4 (Src.own At.p0 (by first | omega | (simp only [subl_length, cpl_length, List.length_set, List.length_append, List.length_cons, List.length_nil, List.length_replicate, row_len, c34]; omega) | (simp only [subl_length, cpl_length, List.length_set, List.length_append, List.length_cons, List.length_nil, List.length_replicate, row_len, c34]; done))) (cat_row (α := U16) (by first | rfl | omega | (simp only [subl_length, cpl_length, List.length_set, List.length_append, List.length_cons, List.length_nil, List.length_replicate, row_len, c34] <;> first | rfl | omega)) (by first | rfl | omega | (simp only [subl_length, cpl_length, List.length_set, List.length_append, List.length_cons, List.length_nil, List.length_replicate, row_len, c34] <;> first | rfl | omega)) (fun _ _ _ _ => rfl)) (by first | omega | (simp only [subl_length, cpl_length, List.length_set, List.length_append, List.length_cons, List.length_nil, List.length_replicate, row_len, c34]; omega) | (simp only [subl_length, cpl_length, List.length_set, List.length_append, List.length_cons, List.length_nil, List.length_replicate, row_len, c34]; done)) (app_le c55 rfl) rfl rfl rfl) (fun β54 => ?_)
 refine GoO.pure (ps_assign rfl rfl) ?_
 refine GoO.nil ?_
 refine GoK.blk ?_
 refine GoK.code ?_
 refine GoC.region ?_
 refine GoO.pure (ps_add rfl rfl rfl hIk17) ?_
 refine GoO.pure (ps_move rfl rfl) ?_
 refine GoO.nil ?_
 obtain rfl := Option.some.inj H
 exact GoK.againJ m18' (by omega) ⟨_, _, _, β54, ⟨by omega, hF13⟩, rfl, rfl⟩ (EnvD.eq rfl (EnvD.eq rfl (EnvD.cons rfl (DLe.len (by first | rfl | omega | (simp only [row_len, gridC_len, rowO_len, List.length_append, List.length_cons, List.length_nil, c34] <;> first | rfl | omega))) (EnvD.eq rfl (EnvD.eq rfl (EnvD.eq rfl (EnvD.nil))))))) (TkD.cons _ _ _ _ _ Rem.p2 (HLe.refl _) (TkD.cons _ _ _ _ _ Rem.p2 (HLe.st ⟨trivial, DLe.len (by first | rfl | omega | (simp only [row_len, gridC_len, rowO_len, c34] <;> first | rfl | omega))⟩) (TkD.cons _ _ _ _ _ Rem.p0 (HLe.refl _) (TkD.nil _))))
 obtain rfl : m18 = 0 := by omega
 refine GoC.exit rfl ?_
 cases hF13
 exact GoK.meet ⟨_, _, β10, rfl, rfl, rfl⟩ (EnvD.eq rfl (EnvD.cons rfl (DLe.len (by first | rfl | omega | (simp only [row_len, gridC_len, rowO_len] <;> first | rfl | omega))) (EnvD.nil))) (TkD.cons _ _ _ _ _ Rem.p0 (HLe.refl _) (TkD.cons _ _ _ _ _ Rem.p0 (HLe.st ⟨trivial, DLe.len (by first | rfl | omega | (simp only [row_len, gridC_len, rowO_len] <;> first | rfl | omega))⟩) (TkD.cons _ _ _ _ _ Rem.p0 (HLe.refl _) (TkD.nil _))))
 rintro v h ⟨l15, l16, β10, rfl, rfl, rfl⟩
 have H := HK12; clear HK12
 refine GoK.code ?_
 refine GoC.seq ?_
 refine GoC.seq ?_
 refine GoC.region ?_
 refine GoO.pure (ps_load rfl At.p1 At.p1 Nat.zero_lt_one rfl rfl) ?_
 have hb := bind_l H; clear H
 obtain ⟨r57, e58, H⟩ := hb
 refine GoO.effC (ef_call rfl (Take.nil _) (Take.cons _ _ _ _ _ Rem.p0 (Take.nil _)) (slices_ContainsFunc_int_gale_Make_c2_spec l15 e58) (LendL.cons (Lend.all' At.p0 (by first | rfl | omega | (simp only [subl_length, cpl_length, List.length_set, List.length_append, List.length_cons, List.length_nil, List.length_replicate, row_len] <;> first | rfl | omega)) rfl) (LendL.cons (Lend.fnV) (LendL.nil))) rfl (slices_ContainsFunc_int_gale_Make_c2_I (r57))) (fun rr HH hp => ?_)
 obtain ⟨rfl, rfl⟩ := hp
 refine GoO.nil ?_
 refine GoK.code ?_
 refine GoC.cond rfl (fun h59 => ?_) (fun h59 => ?_)
 replace H := itb_t h59 H
 refine GoC.seq ?_
 refine GoC.region ?_
 refine GoO.pure (ps_assign rfl rfl) ?_
 refine GoO.pure (ps_assign rfl rfl) ?_
 refine GoO.nil ?_
 refine GoK.code ?_
 obtain rfl := Option.some.inj H
 refine GoC.le (le_row0 55 1 (row ([] : List U16)) rfl) ?_
 exact GoC.retL (ds := [.own ⟨0, 0, 0⟩ 1 0 0, .v (.int .i64 5)]) Try.results23 (ResL.cons (ResD.le (ResD.tmp rfl) (by exact DLe.nilOwn)) (ResL.cons (ResD.tmp rfl) (ResL.nil))) (Take.cons _ _ _ _ _ Rem.p0 (Take.nil _)) ⟨⟨0, 0, 0⟩, rfl, rfl⟩
 replace H := itb_f h59 H
 refine GoC.skip ?_
 refine GoK.code ?_
 refine GoC.seq ?_
 refine GoC.region ?_
 refine GoO.pure (ps_move rfl rfl) ?_
 refine GoO.pure (ps_assign rfl rfl) ?_
 refine GoO.pure (ps_assign rfl rfl) ?_
 refine GoO.nil ?_
 refine GoK.code ?_
 obtain rfl := Option.some.inj H
 exact GoC.retL (ds := [.own β10 1 0 l16.length, .v (.int .i64 0)]) Try.results23 (ResL.cons (ResD.tmp rfl) (ResL.cons (ResD.tmp rfl) (ResL.nil))) (Take.cons _ _ _ _ _ Rem.p2 (Take.nil _)) ⟨β10, rfl, rfl⟩

end Go.Proofs.Ytlpelkfcmeapiaa
