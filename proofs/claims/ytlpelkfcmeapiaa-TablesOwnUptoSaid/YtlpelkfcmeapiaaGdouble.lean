/- The functions double.Check, double.first, double.Split, told as plain functions, and that the code does as they say. -/
import Derived.Test.YtlpelkfcmeapiaaTys
import Derived.Test.YtlpelkfcmeapiaaDat
import Derived.Test.YtlpelkfcmeapiaaGslices
namespace Go.Proofs.Ytlpelkfcmeapiaa
open Go Go.Proofs.Ytlpelkfcmeapiaa.Sx
set_option linter.unusedVariables false
set_option linter.unusedSimpArgs false
def double_Check_B2 (t : (List (List Int))) (k8 : Nat) : Nat → Int → Option (Ct (Int) (Ct (Int) (Int × Int))) := fun k17 x12 =>
 if ((t.getD k8 []).getD k17 (0 : Int)) < 0 then
  some (.ret (.ret (0, 1)))
 else
  if 1000 < ((t.getD k8 []).getD k17 (0 : Int)) then
   some (.ret (.ret (0, 1)))
  else
   if ((k8 : Nat) : Int) = 0 then
    ck (InI (x12 + ((t.getD k8 []).getD k17 (0 : Int)))) <|
    some (.go (x12 + ((t.getD k8 []).getD k17 (0 : Int))))
   else
    some (.go x12)
def double_Check_B1 (t : (List (List Int))) : Nat → Int → Option (Ct (Int) (Int × Int)) := fun k8 x3 =>
 if (((t.getD k8 []).length : Nat) : Int) ≠ ((t.length : Nat) : Int) then
  some (.ret (0, 3))
 else
  (forC (double_Check_B2 t k8) ((t.getD k8 []).length) 0 x3).bind fun q => match q with
  | .go x16 =>
   some (.go x16)
  | .ret x => some x
def double_Check_B4 (t : (List (List Int))) (k28 : Nat) : Nat → (Int × Int) → Option (Int × Int) := fun k37 (x30, x31) =>
 ck (k37 < (t.getD k28 []).length) <|
 ck (InI (x30 + ((t.getD k28 []).getD k37 (0 : Int)))) <|
 ck (k28 < (t.getD k37 []).length) <|
 ck (InI (x31 + ((t.getD k37 []).getD k28 (0 : Int)))) <|
 some ((x30 + ((t.getD k28 []).getD k37 (0 : Int))), (x31 + ((t.getD k37 []).getD k28 (0 : Int))))
def double_Check_B3 (t : (List (List Int))) (x7 : Int) : Nat → Unit → Option (Ct (Unit) (Int × Int)) := fun k28 _ =>
 (forN (double_Check_B4 t k28) t.length 0 (0, 0)).bind fun (x35, x36) =>
 if x35 ≠ x7 then
  some (.ret (0, 8))
 else
  if x36 ≠ x7 then
   some (.ret (0, 8))
  else
   some (.go ())
def double_Check_F (t : (List (List Int))) : Option (Int × Int) :=
 if 6 < ((t.length : Nat) : Int) then
  some (0, 2)
 else
  (forC (double_Check_B1 t) t.length 0 0).bind fun q => match q with
  | .go x7 =>
   (forC (double_Check_B3 t x7) t.length 0 ()).bind fun q => match q with
   | .go _ =>
    some (x7, 0)
   | .ret x => some x
  | .ret x => some x
def double_Check_P (out : Int × Int) (d : D) (H : List HL) : Prop := d = .tp 2 (nth [.v (.int .i64 out.1), .v (.int .i64 out.2)]) ∧ H = []
theorem double_Check_I (out : Int × Int) : IndepP (double_Check_P out) := IndepP.of (by rintro _ _ ⟨rfl, rfl⟩; exact ⟨inferInstance, inferInstance⟩)
set_option maxRecDepth 100000 in
set_option maxHeartbeats 4000000 in
theorem double_Check_spec (t : (List (List Int))) {out : Int × Int} (H : double_Check_F t = some out) : Does Try.prog 43 [slD t] [] (double_Check_P out) := by
 unfold double_Check_F at H
 refine Does.intro Try.func43 rfl Try.ntmps43 rfl fun w0 I0 => ?_
 refine GoC.seq ?_
 refine GoC.region ?_
 refine GoO.pure (ps_assign rfl rfl) ?_
 refine GoO.pure (ps_assign rfl rfl) ?_
 refine GoO.nil ?_
 refine GoK.code ?_
 refine GoC.seq ?_
 refine GoC.seq ?_
 refine GoC.region ?_
 refine GoO.pure (ps_move rfl rfl) ?_
 refine GoO.pure (ps_len rfl (by constructor) rfl) ?_
 refine GoO.lenLe (n := t.length) (x := .tmp 13) rfl (by constructor) sl_lenLe (fun ml1 => ?_)
 refine GoO.pure (ps_gtr rfl rfl rfl) ?_
 refine GoO.nil ?_
 refine GoK.code ?_
 refine GoC.condD rfl (fun h2 => ?_) (fun h2 => ?_)
 replace H := ite_t h2 H
 refine GoC.seq ?_
 refine GoC.region ?_
 refine GoO.pure (ps_assign rfl rfl) ?_
 refine GoO.pure (ps_assign rfl rfl) ?_
 refine GoO.nil ?_
 refine GoK.code ?_
 obtain rfl := Option.some.inj H
 exact GoC.retL (ds := [.v (.int .i64 0), .v (.int .i64 2)]) Try.results43 (ResL.cons (ResD.tmp rfl) (ResL.cons (ResD.tmp rfl) (ResL.nil))) (Take.nil _) ⟨rfl, rfl⟩
 replace H := ite_f h2 H
 refine GoC.skip ?_
 refine GoK.code ?_
 refine GoC.seq ?_
 refine GoC.region ?_
 refine GoO.pure (ps_assign rfl rfl) ?_
 refine GoO.nil ?_
 refine GoK.code ?_
 refine GoC.seq ?_
 refine GoC.seq ?_
 refine GoC.region ?_
 refine GoO.pure (ps_move rfl rfl) ?_
 refine GoO.pure (ps_len rfl (by constructor) rfl) ?_
 refine GoO.pure (ps_move rfl rfl) ?_
 refine GoO.nil ?_
 refine GoK.code ?_
 have hb := bind_l H; clear H
 obtain ⟨q6, hl24, HK4⟩ := hb
 refine GoC.blockJ [(0, slD t)] [] (fun v h => ∃ (x7 : Int), q6 = .go x7 ∧ v = [(4, .v (.int .i64 x7))] ∧ h = []) ?_ ?_
 refine GoC.loopJ [(0, _), (16, _), (17, _)] [] (fun mQ v h => ∃ (k8 : Nat) (x3 : Int), (k8 + mQ = t.length ∧ forC (double_Check_B1 t) mQ k8 x3 = some q6) ∧ v = [(18, .v (.int .i64 ((k8 : Nat) : Int))), (4, .v (.int .i64 x3))] ∧ h = []) t.length ⟨_, _, ⟨by omega, hl24⟩, rfl, rfl⟩ (EnvD.eq rfl (EnvD.eq rfl (EnvD.eq rfl (EnvD.eq rfl (EnvD.eq rfl (EnvD.nil)))))) (TkD.nil _) ?_
 rintro m9 v h ⟨k8, x3, ⟨hkk8, hF5⟩, rfl, rfl⟩
 refine GoC.seq ?_
 refine GoC.region ?_
 refine GoO.pure (ps_lss rfl rfl rfl) ?_
 refine GoO.nil ?_
 refine GoK.code ?_
 refine GoC.seq ?_
 refine GoC.condD rfl (fun (hk8 : (k8 : Int) < ((t.length : Nat) : Int)) => ?_) (fun (hk8 : ¬ (k8 : Int) < ((t.length : Nat) : Int)) => ?_)
 obtain ⟨m9', rfl⟩ : ∃ x, m9 = x + 1 := ⟨m9 - 1, by omega⟩
 have hb := bind_l hF5; clear hF5
 obtain ⟨qrm9, H, hF5⟩ := hb
 have hnk8 : k8 < t.length := by omega
 have hIk8 : InI ((k8 : Int) + 1) := inI_len hk8 ml1
 refine GoC.skip ?_
 refine GoK.code ?_
 refine GoC.seq ?_
 refine GoC.block ?_
 refine GoC.seq ?_
 refine GoC.region ?_
 refine GoO.pure (ps_move rfl rfl) ?_
 refine GoO.pure (ps_indexAddrRN rfl rfl hnk8 rfl) ?_
 refine GoO.pure (ps_loadR rfl hnk8 rfl rfl) ?_
 refine GoO.pure (ps_assign rfl rfl) ?_
 refine GoO.pure (ps_assign rfl rfl) ?_
 refine GoO.nil ?_
 refine GoK.code ?_
 refine GoC.seq ?_
 refine GoC.seq ?_
 refine GoC.region ?_
 refine GoO.pure (ps_move rfl rfl) ?_
 refine GoO.pure (ps_len rfl (by constructor) rfl) ?_
 refine GoO.lenLe (n := (t.getD k8 []).length) (x := .tmp 23) rfl (by constructor) sl_lenLe (fun ml10 => ?_)
 refine GoO.pure (ps_move rfl rfl) ?_
 refine GoO.pure (ps_len rfl (by constructor) rfl) ?_
 refine GoO.pure (ps_neq rfl rfl rfl) ?_
 refine GoO.nil ?_
 refine GoK.code ?_
 refine GoC.condD rfl (fun h11 => ?_) (fun h11 => ?_)
 replace H := ite_t h11 H
 refine GoC.seq ?_
 refine GoC.region ?_
 refine GoO.pure (ps_assign rfl rfl) ?_
 refine GoO.pure (ps_assign rfl rfl) ?_
 refine GoO.nil ?_
 refine GoK.code ?_
 obtain rfl := Option.some.inj H
 obtain rfl := Option.some.inj hF5
 obtain rfl := Option.some.inj HK4
 exact GoC.retL (ds := [.v (.int .i64 0), .v (.int .i64 3)]) Try.results43 (ResL.cons (ResD.tmp rfl) (ResL.cons (ResD.tmp rfl) (ResL.nil))) (Take.nil _) ⟨rfl, rfl⟩
 replace H := ite_f h11 H
 refine GoC.skip ?_
 refine GoK.code ?_
 refine GoC.seq ?_
 refine GoC.region ?_
 refine GoO.pure (ps_move rfl rfl) ?_
 refine GoO.pure (ps_len rfl (by constructor) rfl) ?_
 refine GoO.pure (ps_move rfl rfl) ?_
 refine GoO.nil ?_
 refine GoK.code ?_
 have hb := bind_l H; clear H
 obtain ⟨q15, hl23, HK13⟩ := hb
 refine GoC.blockJ [(0, slD t), (16, slD t), (17, .v (.int .i64 ((t.length : Nat) : Int))), (18, .v (.int .i64 ((k8 : Nat) : Int)))] [] (fun v h => ∃ (x16 : Int), q15 = .go x16 ∧ v = [(4, .v (.int .i64 x16))] ∧ h = []) ?_ ?_
 refine GoC.loopJ [(0, _), (5, _), (16, _), (17, _), (18, _), (28, _), (29, _)] [] (fun mQ v h => ∃ (k17 : Nat) (x12 : Int), (k17 + mQ = (t.getD k8 []).length ∧ forC (double_Check_B2 t k8) mQ k17 x12 = some q15) ∧ v = [(30, .v (.int .i64 ((k17 : Nat) : Int))), (4, .v (.int .i64 x12))] ∧ h = []) ((t.getD k8 []).length) ⟨_, _, ⟨by omega, hl23⟩, rfl, rfl⟩ (EnvD.eq rfl (EnvD.eq rfl (EnvD.eq rfl (EnvD.eq rfl (EnvD.eq rfl (EnvD.eq rfl (EnvD.eq rfl (EnvD.eq rfl (EnvD.eq rfl (EnvD.nil)))))))))) (TkD.nil _) ?_
 rintro m18 v h ⟨k17, x12, ⟨hkk17, hF14⟩, rfl, rfl⟩
 refine GoC.seq ?_
 refine GoC.region ?_
 refine GoO.pure (ps_lss rfl rfl rfl) ?_
 refine GoO.nil ?_
 refine GoK.code ?_
 refine GoC.seq ?_
 refine GoC.condD rfl (fun (hk17 : (k17 : Int) < (((t.getD k8 []).length : Nat) : Int)) => ?_) (fun (hk17 : ¬ (k17 : Int) < (((t.getD k8 []).length : Nat) : Int)) => ?_)
 obtain ⟨m18', rfl⟩ : ∃ x, m18 = x + 1 := ⟨m18 - 1, by omega⟩
 have hb := bind_l hF14; clear hF14
 obtain ⟨qrm18, H, hF14⟩ := hb
 have hnk17 : k17 < (t.getD k8 []).length := by omega
 have hIk17 : InI ((k17 : Int) + 1) := inI_len hk17 ml10
 refine GoC.skip ?_
 refine GoK.code ?_
 refine GoC.seq ?_
 refine GoC.block ?_
 refine GoC.seq ?_
 refine GoC.region ?_
 refine GoO.pure (ps_indexAddrRN rfl rfl hnk17 rfl) ?_
 refine GoO.pure (ps_loadR rfl hnk17 rfl rfl) ?_
 refine GoO.pure (ps_assign rfl rfl) ?_
 refine GoO.nil ?_
 refine GoK.code ?_
 refine GoC.seq ?_
 refine GoC.seq ?_
 refine GoC.region ?_
 refine GoO.pure (ps_move rfl rfl) ?_
 refine GoO.pure (ps_lss rfl rfl rfl) ?_
 refine GoO.pure (ps_move rfl rfl) ?_
 refine GoO.guardE rfl rfl rfl rfl (fun h19 => ?_) (fun h19 => ?_)
 replace H := ite_f h19 H
 refine GoO.pure (ps_move rfl rfl) ?_
 refine GoO.guardT rfl rfl rfl ?_
 refine GoO.pure (ps_gtr rfl rfl rfl) ?_
 refine GoO.pure (ps_pickF rfl rfl rfl) ?_
 refine GoO.nil ?_
 refine GoK.code ?_
 refine GoC.condD rfl (fun h20 => ?_) (fun h20 => ?_)
 replace H := ite_t h20 H
 refine GoC.seq ?_
 refine GoC.region ?_
 refine GoO.pure (ps_assign rfl rfl) ?_
 refine GoO.pure (ps_assign rfl rfl) ?_
 refine GoO.nil ?_
 refine GoK.code ?_
 obtain rfl := Option.some.inj H
 obtain rfl := Option.some.inj hF14
 obtain rfl := Option.some.inj HK13
 obtain rfl := Option.some.inj hF5
 obtain rfl := Option.some.inj HK4
 exact GoC.retL (ds := [.v (.int .i64 0), .v (.int .i64 1)]) Try.results43 (ResL.cons (ResD.tmp rfl) (ResL.cons (ResD.tmp rfl) (ResL.nil))) (Take.nil _) ⟨rfl, rfl⟩
 replace H := ite_f h20 H
 refine GoC.skip ?_
 refine GoK.code ?_
 refine GoC.seq ?_
 refine GoC.region ?_
 refine GoO.pure (ps_move rfl rfl) ?_
 refine GoO.pure (ps_eql rfl rfl rfl) ?_
 refine GoO.nil ?_
 refine GoK.code ?_
 refine GoC.condD rfl (fun h21 => ?_) (fun h21 => ?_)
 replace H := ite_t h21 H
 refine GoC.region ?_
 refine GoO.pure (ps_move rfl rfl) ?_
 refine GoO.pure (ps_move rfl rfl) ?_
 have c22 := ck_l H; replace H := ck_r H
 refine GoO.pure (ps_add rfl rfl rfl c22) ?_
 refine GoO.pure (ps_assign rfl rfl) ?_
 refine GoO.nil ?_
 refine GoK.blk ?_
 refine GoK.code ?_
 refine GoC.region ?_
 refine GoO.pure (ps_add rfl rfl rfl hIk17) ?_
 refine GoO.pure (ps_move rfl rfl) ?_
 refine GoO.nil ?_
 obtain rfl := Option.some.inj H
 exact GoK.againJ m18' (by omega) ⟨_, _, ⟨by omega, hF14⟩, rfl, rfl⟩ (EnvD.eq rfl (EnvD.eq rfl (EnvD.eq rfl (EnvD.eq rfl (EnvD.eq rfl (EnvD.eq rfl (EnvD.eq rfl (EnvD.eq rfl (EnvD.eq rfl (EnvD.nil)))))))))) (TkD.nil _)
 replace H := ite_f h21 H
 refine GoC.skip ?_
 refine GoK.blk ?_
 refine GoK.code ?_
 refine GoC.region ?_
 refine GoO.pure (ps_add rfl rfl rfl hIk17) ?_
 refine GoO.pure (ps_move rfl rfl) ?_
 refine GoO.nil ?_
 obtain rfl := Option.some.inj H
 exact GoK.againJ m18' (by omega) ⟨_, _, ⟨by omega, hF14⟩, rfl, rfl⟩ (EnvD.eq rfl (EnvD.eq rfl (EnvD.eq rfl (EnvD.eq rfl (EnvD.eq rfl (EnvD.eq rfl (EnvD.eq rfl (EnvD.eq rfl (EnvD.eq rfl (EnvD.nil)))))))))) (TkD.nil _)
 replace H := ite_t h19 H
 refine GoO.guardF rfl rfl rfl rfl ?_
 refine GoO.pure (ps_pickT rfl rfl rfl) ?_
 refine GoO.nil ?_
 refine GoK.code ?_
 refine GoC.condT rfl ?_
 refine GoC.seq ?_
 refine GoC.region ?_
 refine GoO.pure (ps_assign rfl rfl) ?_
 refine GoO.pure (ps_assign rfl rfl) ?_
 refine GoO.nil ?_
 refine GoK.code ?_
 obtain rfl := Option.some.inj H
 obtain rfl := Option.some.inj hF14
 obtain rfl := Option.some.inj HK13
 obtain rfl := Option.some.inj hF5
 obtain rfl := Option.some.inj HK4
 exact GoC.retL (ds := [.v (.int .i64 0), .v (.int .i64 1)]) Try.results43 (ResL.cons (ResD.tmp rfl) (ResL.cons (ResD.tmp rfl) (ResL.nil))) (Take.nil _) ⟨rfl, rfl⟩
 obtain rfl : m18 = 0 := by omega
 refine GoC.exit rfl ?_
 cases hF14
 exact GoK.meet ⟨_, rfl, rfl, rfl⟩ (EnvD.eq rfl (EnvD.eq rfl (EnvD.eq rfl (EnvD.eq rfl (EnvD.eq rfl (EnvD.nil)))))) (TkD.nil _)
 rintro v h ⟨x16, rfl, rfl, rfl⟩
 have H := HK13; clear HK13
 refine GoK.blk ?_
 refine GoK.code ?_
 refine GoC.region ?_
 refine GoO.pure (ps_add rfl rfl rfl hIk8) ?_
 refine GoO.pure (ps_move rfl rfl) ?_
 refine GoO.nil ?_
 obtain rfl := Option.some.inj H
 exact GoK.againJ m9' (by omega) ⟨_, _, ⟨by omega, hF5⟩, rfl, rfl⟩ (EnvD.eq rfl (EnvD.eq rfl (EnvD.eq rfl (EnvD.eq rfl (EnvD.eq rfl (EnvD.nil)))))) (TkD.nil _)
 obtain rfl : m9 = 0 := by omega
 refine GoC.exit rfl ?_
 cases hF5
 exact GoK.meet ⟨_, rfl, rfl, rfl⟩ (EnvD.eq rfl (EnvD.eq rfl (EnvD.nil))) (TkD.nil _)
 rintro v h ⟨x7, rfl, rfl, rfl⟩
 have H := HK4; clear HK4
 refine GoK.code ?_
 refine GoC.seq ?_
 refine GoC.seq ?_
 refine GoC.region ?_
 refine GoO.pure (ps_move rfl rfl) ?_
 refine GoO.pure (ps_len rfl (by constructor) rfl) ?_
 refine GoO.pure (ps_move rfl rfl) ?_
 refine GoO.nil ?_
 refine GoK.code ?_
 have hb := bind_l H; clear H
 obtain ⟨q27, hl46, HK25⟩ := hb
 refine GoC.blockJ [(4, .v (.int .i64 x7))] [] (fun v h => q27 = .go () ∧ v = [] ∧ h = []) ?_ ?_
 refine GoC.loopJ [(0, _), (4, _), (48, _)] [] (fun mQ v h => ∃ (k28 : Nat), (k28 + mQ = t.length ∧ forC (double_Check_B3 t x7) mQ k28 () = some q27) ∧ v = [(49, .v (.int .i64 ((k28 : Nat) : Int)))] ∧ h = []) t.length ⟨_, ⟨by omega, hl46⟩, rfl, rfl⟩ (EnvD.eq rfl (EnvD.eq rfl (EnvD.eq rfl (EnvD.eq rfl (EnvD.nil))))) (TkD.nil _) ?_
 rintro m29 v h ⟨k28, ⟨hkk28, hF26⟩, rfl, rfl⟩
 refine GoC.seq ?_
 refine GoC.region ?_
 refine GoO.pure (ps_lss rfl rfl rfl) ?_
 refine GoO.nil ?_
 refine GoK.code ?_
 refine GoC.seq ?_
 refine GoC.condD rfl (fun (hk28 : (k28 : Int) < ((t.length : Nat) : Int)) => ?_) (fun (hk28 : ¬ (k28 : Int) < ((t.length : Nat) : Int)) => ?_)
 obtain ⟨m29', rfl⟩ : ∃ x, m29 = x + 1 := ⟨m29 - 1, by omega⟩
 have hb := bind_l hF26; clear hF26
 obtain ⟨qrm29, H, hF26⟩ := hb
 have hnk28 : k28 < t.length := by omega
 have hIk28 : InI ((k28 : Int) + 1) := inI_len hk28 ml1
 refine GoC.skip ?_
 refine GoK.code ?_
 refine GoC.seq ?_
 refine GoC.block ?_
 refine GoC.seq ?_
 refine GoC.region ?_
 refine GoO.pure (ps_move rfl rfl) ?_
 refine GoO.pure (ps_assign rfl rfl) ?_
 refine GoO.nil ?_
 refine GoK.code ?_
 refine GoC.seq ?_
 refine GoC.region ?_
 refine GoO.pure (ps_assign rfl rfl) ?_
 refine GoO.pure (ps_assign rfl rfl) ?_
 refine GoO.nil ?_
 refine GoK.code ?_
 refine GoC.seq ?_
 refine GoC.seq ?_
 refine GoC.region ?_
 refine GoO.pure (ps_move rfl rfl) ?_
 refine GoO.pure (ps_len rfl (by constructor) rfl) ?_
 refine GoO.pure (ps_move rfl rfl) ?_
 refine GoO.nil ?_
 refine GoK.code ?_
 have hb := bind_l H; clear H
 obtain ⟨⟨x35, x36⟩, hl43, HK32⟩ := hb
 refine GoC.blockJ [(0, slD t), (4, .v (.int .i64 x7)), (48, .v (.int .i64 ((t.length : Nat) : Int))), (49, .v (.int .i64 ((k28 : Nat) : Int)))] [] (fun v h => v = [(10, .v (.int .i64 x35)), (11, .v (.int .i64 x36))] ∧ h = []) ?_ ?_
 refine GoC.loopJ [(0, _), (4, _), (9, _), (48, _), (49, _), (53, _)] [] (fun mQ v h => ∃ (k37 : Nat) (x30 : Int) (x31 : Int), (k37 + mQ = t.length ∧ forN (double_Check_B4 t k28) mQ k37 (x30, x31) = some (x35, x36)) ∧ v = [(54, .v (.int .i64 ((k37 : Nat) : Int))), (10, .v (.int .i64 x30)), (11, .v (.int .i64 x31))] ∧ h = []) t.length ⟨_, _, _, ⟨by omega, hl43⟩, rfl, rfl⟩ (EnvD.eq rfl (EnvD.eq rfl (EnvD.eq rfl (EnvD.eq rfl (EnvD.eq rfl (EnvD.eq rfl (EnvD.eq rfl (EnvD.eq rfl (EnvD.eq rfl (EnvD.nil)))))))))) (TkD.nil _) ?_
 rintro m38 v h ⟨k37, x30, x31, ⟨hkk37, hF33⟩, rfl, rfl⟩
 refine GoC.seq ?_
 refine GoC.region ?_
 refine GoO.pure (ps_lss rfl rfl rfl) ?_
 refine GoO.nil ?_
 refine GoK.code ?_
 refine GoC.seq ?_
 refine GoC.condD rfl (fun (hk37 : (k37 : Int) < ((t.length : Nat) : Int)) => ?_) (fun (hk37 : ¬ (k37 : Int) < ((t.length : Nat) : Int)) => ?_)
 obtain ⟨m38', rfl⟩ : ∃ x, m38 = x + 1 := ⟨m38 - 1, by omega⟩
 have hb := bind_l hF33; clear hF33
 obtain ⟨qrm38, H, hF33⟩ := hb
 have hnk37 : k37 < t.length := by omega
 have hIk37 : InI ((k37 : Int) + 1) := inI_len hk37 ml1
 refine GoC.skip ?_
 refine GoK.code ?_
 refine GoC.seq ?_
 refine GoC.block ?_
 refine GoC.seq ?_
 refine GoC.region ?_
 refine GoO.pure (ps_move rfl rfl) ?_
 refine GoO.pure (ps_assign rfl rfl) ?_
 refine GoO.nil ?_
 refine GoK.code ?_
 refine GoC.seq ?_
 refine GoC.region ?_
 refine GoO.pure (ps_move rfl rfl) ?_
 refine GoO.pure (ps_move rfl rfl) ?_
 refine GoO.pure (ps_move rfl rfl) ?_
 refine GoO.pure (ps_indexAddrRN rfl rfl hnk28 rfl) ?_
 refine GoO.pure (ps_loadR rfl hnk28 rfl rfl) ?_
 refine GoO.pure (ps_move rfl rfl) ?_
 have c39 := ck_l H; replace H := ck_r H
 refine GoO.pure (ps_indexAddrRN rfl rfl c39 rfl) ?_
 refine GoO.pure (ps_loadR rfl c39 rfl rfl) ?_
 have c40 := ck_l H; replace H := ck_r H
 refine GoO.pure (ps_add rfl rfl rfl c40) ?_
 refine GoO.pure (ps_assign rfl rfl) ?_
 refine GoO.nil ?_
 refine GoK.code ?_
 refine GoC.region ?_
 refine GoO.pure (ps_move rfl rfl) ?_
 refine GoO.pure (ps_move rfl rfl) ?_
 refine GoO.pure (ps_move rfl rfl) ?_
 refine GoO.pure (ps_indexAddrRN rfl rfl hnk37 rfl) ?_
 refine GoO.pure (ps_loadR rfl hnk37 rfl rfl) ?_
 refine GoO.pure (ps_move rfl rfl) ?_
 have c41 := ck_l H; replace H := ck_r H
 refine GoO.pure (ps_indexAddrRN rfl rfl c41 rfl) ?_
 refine GoO.pure (ps_loadR rfl c41 rfl rfl) ?_
 have c42 := ck_l H; replace H := ck_r H
 refine GoO.pure (ps_add rfl rfl rfl c42) ?_
 refine GoO.pure (ps_assign rfl rfl) ?_
 refine GoO.nil ?_
 refine GoK.blk ?_
 refine GoK.code ?_
 refine GoC.region ?_
 refine GoO.pure (ps_add rfl rfl rfl hIk37) ?_
 refine GoO.pure (ps_move rfl rfl) ?_
 refine GoO.nil ?_
 obtain rfl := Option.some.inj H
 exact GoK.againJ m38' (by omega) ⟨_, _, _, ⟨by omega, hF33⟩, rfl, rfl⟩ (EnvD.eq rfl (EnvD.eq rfl (EnvD.eq rfl (EnvD.eq rfl (EnvD.eq rfl (EnvD.eq rfl (EnvD.eq rfl (EnvD.eq rfl (EnvD.eq rfl (EnvD.nil)))))))))) (TkD.nil _)
 obtain rfl : m38 = 0 := by omega
 refine GoC.exit rfl ?_
 cases hF33
 exact GoK.meet ⟨rfl, rfl⟩ (EnvD.eq rfl (EnvD.eq rfl (EnvD.eq rfl (EnvD.eq rfl (EnvD.eq rfl (EnvD.eq rfl (EnvD.nil))))))) (TkD.nil _)
 rintro v h ⟨rfl, rfl⟩
 have H := HK32; clear HK32
 refine GoK.code ?_
 refine GoC.seq ?_
 refine GoC.region ?_
 refine GoO.pure (ps_move rfl rfl) ?_
 refine GoO.pure (ps_move rfl rfl) ?_
 refine GoO.pure (ps_neq rfl rfl rfl) ?_
 refine GoO.pure (ps_move rfl rfl) ?_
 refine GoO.guardE rfl rfl rfl rfl (fun h44 => ?_) (fun h44 => ?_)
 replace H := ite_f h44 H
 refine GoO.pure (ps_move rfl rfl) ?_
 refine GoO.guardT rfl rfl rfl ?_
 refine GoO.pure (ps_move rfl rfl) ?_
 refine GoO.guardT rfl rfl rfl ?_
 refine GoO.pure (ps_neq rfl rfl rfl) ?_
 refine GoO.pure (ps_pickF rfl rfl rfl) ?_
 refine GoO.nil ?_
 refine GoK.code ?_
 refine GoC.condD rfl (fun h45 => ?_) (fun h45 => ?_)
 replace H := ite_t h45 H
 refine GoC.seq ?_
 refine GoC.region ?_
 refine GoO.pure (ps_assign rfl rfl) ?_
 refine GoO.pure (ps_assign rfl rfl) ?_
 refine GoO.nil ?_
 refine GoK.code ?_
 obtain rfl := Option.some.inj H
 obtain rfl := Option.some.inj hF26
 obtain rfl := Option.some.inj HK25
 exact GoC.retL (ds := [.v (.int .i64 0), .v (.int .i64 8)]) Try.results43 (ResL.cons (ResD.tmp rfl) (ResL.cons (ResD.tmp rfl) (ResL.nil))) (Take.nil _) ⟨rfl, rfl⟩
 replace H := ite_f h45 H
 refine GoC.skip ?_
 refine GoK.blk ?_
 refine GoK.code ?_
 refine GoC.region ?_
 refine GoO.pure (ps_add rfl rfl rfl hIk28) ?_
 refine GoO.pure (ps_move rfl rfl) ?_
 refine GoO.nil ?_
 obtain rfl := Option.some.inj H
 exact GoK.againJ m29' (by omega) ⟨_, ⟨by omega, hF26⟩, rfl, rfl⟩ (EnvD.eq rfl (EnvD.eq rfl (EnvD.eq rfl (EnvD.eq rfl (EnvD.nil))))) (TkD.nil _)
 replace H := ite_t h44 H
 refine GoO.guardF rfl rfl rfl rfl ?_
 refine GoO.guardF rfl rfl rfl rfl ?_
 refine GoO.pure (ps_pickT rfl rfl rfl) ?_
 refine GoO.nil ?_
 refine GoK.code ?_
 refine GoC.condT rfl ?_
 refine GoC.seq ?_
 refine GoC.region ?_
 refine GoO.pure (ps_assign rfl rfl) ?_
 refine GoO.pure (ps_assign rfl rfl) ?_
 refine GoO.nil ?_
 refine GoK.code ?_
 obtain rfl := Option.some.inj H
 obtain rfl := Option.some.inj hF26
 obtain rfl := Option.some.inj HK25
 exact GoC.retL (ds := [.v (.int .i64 0), .v (.int .i64 8)]) Try.results43 (ResL.cons (ResD.tmp rfl) (ResL.cons (ResD.tmp rfl) (ResL.nil))) (Take.nil _) ⟨rfl, rfl⟩
 obtain rfl : m29 = 0 := by omega
 refine GoC.exit rfl ?_
 cases hF26
 exact GoK.meet ⟨rfl, rfl, rfl⟩ (EnvD.eq rfl (EnvD.nil)) (TkD.nil _)
 rintro v h ⟨rfl, rfl, rfl⟩
 have H := HK25; clear HK25
 refine GoK.code ?_
 refine GoC.seq ?_
 refine GoC.region ?_
 refine GoO.pure (ps_move rfl rfl) ?_
 refine GoO.pure (ps_assign rfl rfl) ?_
 refine GoO.pure (ps_assign rfl rfl) ?_
 refine GoO.nil ?_
 refine GoK.code ?_
 obtain rfl := Option.some.inj H
 exact GoC.retL (ds := [.v (.int .i64 x7), .v (.int .i64 0)]) Try.results43 (ResL.cons (ResD.tmp rfl) (ResL.cons (ResD.tmp rfl) (ResL.nil))) (Take.nil _) ⟨rfl, rfl⟩

def double_first_B1 (rec : ((List (List Int)) → Int → (List Int) → Option ((List Int)))) (t : (List (List Int))) (row_ : Int) (used : (List Int)) : Nat → Unit → Option (Ct (Unit) ((List Int))) := fun k12 _ =>
 if 0 < ((t.getD row_.toNat []).getD k12 (0 : Int)) then
  (slices_Contains_int_F used ((k12 : Nat) : Int)).bind fun r15 =>
  if (!r15) = true then
   ck (InI (row_ + 1)) <|
   (slices_Clone_int_F used).bind fun r19 =>
   ck (r19.length + 1 ≤ 17592186044416) <|
   (rec t (row_ + 1) (r19 ++ ([((k12 : Nat) : Int)] : List Int))).bind fun r25 =>
   if 0 < r25.length then
    some (.ret r25)
   else
    some (.go ())
  else
   some (.go ())
 else
  some (.go ())
def double_first_S (rec : (List (List Int)) → Int → (List Int) → Option ((List Int))) (t : (List (List Int))) (row_ : Int) (used : (List Int)) : Option ((List Int)) :=
 if row_ = ((t.length : Nat) : Int) then
  (slices_Clone_int_F used).bind fun r3 =>
  ck (0 < r3.length) <|
  some r3
 else
  ck (0 ≤ row_ ∧ row_ < ((t.length : Nat) : Int)) <|
  (forC (double_first_B1 rec t row_ used) ((t.getD row_.toNat []).length) 0 ()).bind fun q => match q with
  | .go _ =>
   some []
  | .ret x => some x
def double_first_F : Nat → (List (List Int)) → Int → (List Int) → Option ((List Int))
 | 0 => fun _ _ _ => none
 | fuel + 1 => double_first_S (double_first_F fuel)
def double_first_P (out : (List Int)) (d : D) (H : List HL) : Prop := ∃ β1 : BK, d = nilD β1 1 out.length ∧ H = [.one β1 3 1 (row out)]
theorem double_first_I (out : (List Int)) : IndepP (double_first_P out) := IndepP.of (by rintro _ _ ⟨β1, rfl, rfl⟩; exact ⟨inferInstance, inferInstance⟩)
set_option maxRecDepth 100000 in
set_option maxHeartbeats 4000000 in
theorem double_first_spec : ∀ (fuel : Nat) (t : (List (List Int))) (row_ : Int) (used : (List Int)) {out : (List Int)} (H : double_first_F fuel t row_ used = some out), Does Try.prog 48 [slD t, .v (.int .i64 row_), slD used] [] (double_first_P out) := by
 intro fuel
 induction fuel with
 | zero => intro t row_ used out H; cases H
 | succ fuel ih =>
 intro t row_ used out H
 replace H : double_first_S (double_first_F fuel) t row_ used = some out := H
 generalize double_first_F fuel = rec at ih H
 unfold double_first_S at H
 refine Does.intro Try.func48 rfl Try.ntmps48 rfl fun w0 I0 => ?_
 refine GoC.seq ?_
 refine GoC.region ?_
 refine GoO.pure (ps_assign rfl rfl) ?_
 refine GoO.nil ?_
 refine GoK.code ?_
 refine GoC.seq ?_
 refine GoC.seq ?_
 refine GoC.region ?_
 refine GoO.pure (ps_move rfl rfl) ?_
 refine GoO.pure (ps_move rfl rfl) ?_
 refine GoO.pure (ps_len rfl (by constructor) rfl) ?_
 refine GoO.lenLe (n := t.length) (x := .tmp 11) rfl (by constructor) sl_lenLe (fun ml1 => ?_)
 refine GoO.pure (ps_eql rfl rfl rfl) ?_
 refine GoO.nil ?_
 refine GoK.code ?_
 refine GoC.condD rfl (fun h2 => ?_) (fun h2 => ?_)
 replace H := ite_t h2 H
 refine GoC.seq ?_
 refine GoC.region ?_
 refine GoO.pure (ps_move rfl rfl) ?_
 have hb := bind_l H; clear H
 obtain ⟨r3, e5, H⟩ := hb
 refine GoO.effC (ef_call rfl (Take.nil _) (Take.nil _) (slices_Clone_int_spec used e5) (LendL.cons (Lend.refl _ _) (LendL.nil)) rfl (slices_Clone_int_I (r3))) (fun rr HH hp => ?_)
 obtain ⟨β4, rfl, rfl⟩ := hp
 refine GoO.pure (ps_assign rfl rfl) ?_
 refine GoO.nil ?_
 refine GoK.code ?_
 have c6 := ck_l H; replace H := ck_r H
 obtain rfl := Option.some.inj H
 exact GoC.retL (ds := [nilD β4 1 r3.length]) Try.results48 (ResL.cons (ResD.le (ResD.tmp rfl) (by exact DLe.toNil c6 (by first | rfl | omega | (simp only [row_len, gridC_len, rowO_len] <;> first | rfl | omega)))) (ResL.nil)) (Take.cons _ _ _ _ _ Rem.p0 (Take.nil _)) ⟨β4, rfl, rfl⟩
 replace H := ite_f h2 H
 refine GoC.skip ?_
 refine GoK.code ?_
 refine GoC.seq ?_
 refine GoC.seq ?_
 refine GoC.region ?_
 refine GoO.pure (ps_move rfl rfl) ?_
 refine GoO.pure (ps_move rfl rfl) ?_
 have c7 := ck_l H; replace H := ck_r H
 refine GoO.pure (ps_indexAddrR rfl rfl c7 rfl) ?_
 refine GoO.pure (ps_loadR rfl (idx_lt c7) rfl rfl) ?_
 refine GoO.pure (ps_len rfl (by constructor) rfl) ?_
 refine GoO.lenLe (n := (t.getD row_.toNat []).length) (x := .tmp 19) rfl (by constructor) sl_lenLe (fun ml8 => ?_)
 refine GoO.pure (ps_move rfl rfl) ?_
 refine GoO.nil ?_
 refine GoK.code ?_
 have hb := bind_l H; clear H
 obtain ⟨q11, hl29, HK9⟩ := hb
 refine GoC.blockJ [] [] (fun v h => q11 = .go () ∧ v = [] ∧ h = []) ?_ ?_
 refine GoC.loopJ [(0, _), (1, _), (2, _), (19, _), (20, _)] [] (fun mQ v h => ∃ (k12 : Nat), (k12 + mQ = (t.getD row_.toNat []).length ∧ forC (double_first_B1 rec t row_ used) mQ k12 () = some q11) ∧ v = [(21, .v (.int .i64 ((k12 : Nat) : Int)))] ∧ h = []) ((t.getD row_.toNat []).length) ⟨_, ⟨by omega, hl29⟩, rfl, rfl⟩ (EnvD.eq rfl (EnvD.eq rfl (EnvD.eq rfl (EnvD.eq rfl (EnvD.eq rfl (EnvD.eq rfl (EnvD.nil))))))) (TkD.nil _) ?_
 rintro m13 v h ⟨k12, ⟨hkk12, hF10⟩, rfl, rfl⟩
 refine GoC.seq ?_
 refine GoC.region ?_
 refine GoO.pure (ps_lss rfl rfl rfl) ?_
 refine GoO.nil ?_
 refine GoK.code ?_
 refine GoC.seq ?_
 refine GoC.condD rfl (fun (hk12 : (k12 : Int) < (((t.getD row_.toNat []).length : Nat) : Int)) => ?_) (fun (hk12 : ¬ (k12 : Int) < (((t.getD row_.toNat []).length : Nat) : Int)) => ?_)
 obtain ⟨m13', rfl⟩ : ∃ x, m13 = x + 1 := ⟨m13 - 1, by omega⟩
 have hb := bind_l hF10; clear hF10
 obtain ⟨qrm13, H, hF10⟩ := hb
 have hnk12 : k12 < (t.getD row_.toNat []).length := by omega
 have hIk12 : InI ((k12 : Int) + 1) := inI_len hk12 ml8
 refine GoC.skip ?_
 refine GoK.code ?_
 refine GoC.seq ?_
 refine GoC.block ?_
 refine GoC.seq ?_
 refine GoC.region ?_
 refine GoO.pure (ps_move rfl rfl) ?_
 refine GoO.pure (ps_indexAddrRN rfl rfl hnk12 rfl) ?_
 refine GoO.pure (ps_loadR rfl hnk12 rfl rfl) ?_
 refine GoO.pure (ps_assign rfl rfl) ?_
 refine GoO.pure (ps_assign rfl rfl) ?_
 refine GoO.nil ?_
 refine GoK.code ?_
 refine GoC.seq ?_
 refine GoC.region ?_
 refine GoO.pure (ps_move rfl rfl) ?_
 refine GoO.pure (ps_gtr rfl rfl rfl) ?_
 refine GoO.pure (ps_move rfl rfl) ?_
 refine GoO.guardD rfl rfl rfl rfl (fun h14 => ?_) (fun h14 => ?_)
 replace H := ite_t h14 H
 refine GoO.pure (ps_move rfl rfl) ?_
 refine GoO.guardT rfl rfl rfl ?_
 refine GoO.pure (ps_move rfl rfl) ?_
 refine GoO.guardT rfl rfl rfl ?_
 have hb := bind_l H; clear H
 obtain ⟨r15, e16, H⟩ := hb
 refine GoO.effC (ef_call rfl (Take.nil _) (Take.nil _) (slices_Contains_int_spec used ((k12 : Nat) : Int) e16) (LendL.cons (Lend.refl _ _) (LendL.cons (Lend.refl _ _) (LendL.nil))) rfl (slices_Contains_int_I (r15))) (fun rr HH hp => ?_)
 obtain ⟨rfl, rfl⟩ := hp
 refine GoO.guardT rfl rfl rfl ?_
 refine GoO.pure (ps_not rfl rfl) ?_
 refine GoO.pure (ps_pickT rfl rfl rfl) ?_
 refine GoO.nil ?_
 refine GoK.code ?_
 refine GoC.cond rfl (fun h17 => ?_) (fun h17 => ?_)
 replace H := itb_t h17 H
 refine GoC.seq ?_
 refine GoC.region ?_
 refine GoO.pure (ps_move rfl rfl) ?_
 refine GoO.pure (ps_move rfl rfl) ?_
 have c18 := ck_l H; replace H := ck_r H
 refine GoO.pure (ps_add rfl rfl rfl c18) ?_
 refine GoO.pure (ps_move rfl rfl) ?_
 have hb := bind_l H; clear H
 obtain ⟨r19, e21, H⟩ := hb
 refine GoO.effC (ef_call rfl (Take.nil _) (Take.nil _) (slices_Clone_int_spec used e21) (LendL.cons (Lend.refl _ _) (LendL.nil)) rfl (slices_Clone_int_I (r19))) (fun rr HH hp => ?_)
 obtain ⟨β20, rfl, rfl⟩ := hp
 refine GoO.pure (ps_move rfl rfl) ?_
 refine GoO.effB (ef_buildSlice (row ([((k12 : Nat) : Int)] : List Int)) rfl (Parts.cons _ _ _ _ _ _ _ _ ⟨rfl, rfl⟩ (Part.one _ rfl rfl) rfl rfl (Parts.nil _)) rfl rfl rfl rfl) (fun β22 => ?_)
 have c24 := ck_l H; replace H := ck_r H
 refine GoO.effB (ef_append rfl rfl Rem.p1 (Src.own At.p0 (by first | omega | (simp only [subl_length, cpl_length, List.length_set, List.length_append, List.length_cons, List.length_nil, List.length_replicate, row_len]; omega) | (simp only [subl_length, cpl_length, List.length_set, List.length_append, List.length_cons, List.length_nil, List.length_replicate, row_len]; done))) (cat_row (α := Int) (by first | rfl | omega | (simp only [subl_length, cpl_length, List.length_set, List.length_append, List.length_cons, List.length_nil, List.length_replicate, row_len] <;> first | rfl | omega)) (by first | rfl | omega | (simp only [subl_length, cpl_length, List.length_set, List.length_append, List.length_cons, List.length_nil, List.length_replicate, row_len] <;> first | rfl | omega)) (fun _ _ _ _ => rfl)) (by first | omega | (simp only [subl_length, cpl_length, List.length_set, List.length_append, List.length_cons, List.length_nil, List.length_replicate, row_len]; omega) | (simp only [subl_length, cpl_length, List.length_set, List.length_append, List.length_cons, List.length_nil, List.length_replicate, row_len]; done)) (app_le c24 rfl) rfl rfl rfl) (fun β23 => ?_)
 have hb := bind_l H; clear H
 obtain ⟨r25, e27, H⟩ := hb
 refine GoO.effC (ef_call rfl (Take.nil _) (Take.cons _ _ _ _ _ Rem.p0 (Take.nil _)) (ih t (row_ + 1) (r19 ++ ([((k12 : Nat) : Int)] : List Int)) e27) (LendL.cons (Lend.refl _ _) (LendL.cons (Lend.refl _ _) (LendL.cons (Lend.all' At.p0 (by first | rfl | omega | (simp only [subl_length, cpl_length, List.length_set, List.length_append, List.length_cons, List.length_nil, List.length_replicate, row_len] <;> first | rfl | omega)) rfl) (LendL.nil)))) rfl (double_first_I (r25))) (fun rr HH hp => ?_)
 obtain ⟨β26, rfl, rfl⟩ := hp
 refine GoO.pure (ps_assign rfl rfl) ?_
 refine GoO.nil ?_
 refine GoK.code ?_
 refine GoC.seq ?_
 refine GoC.region ?_
 refine GoO.pure (ps_move rfl rfl) ?_
 refine GoO.pure (ps_neqNilD rfl rfl rfl) ?_
 refine GoO.nil ?_
 refine GoK.code ?_
 refine GoC.condD rfl (fun h28 => ?_) (fun h28 => ?_)
 replace H := ite_t h28 H
 refine GoC.seq ?_
 refine GoC.region ?_
 refine GoO.pure (ps_move rfl rfl) ?_
 refine GoO.pure (ps_assign rfl rfl) ?_
 refine GoO.nil ?_
 refine GoK.code ?_
 obtain rfl := Option.some.inj H
 obtain rfl := Option.some.inj hF10
 obtain rfl := Option.some.inj HK9
 exact GoC.retL (ds := [nilD β26 1 r25.length]) Try.results48 (ResL.cons (ResD.tmp rfl) (ResL.nil)) (Take.cons _ _ _ _ _ Rem.p0 (Take.nil _)) ⟨β26, rfl, rfl⟩
 replace H := ite_f h28 H
 refine GoC.skip ?_
 refine GoK.blk ?_
 refine GoK.code ?_
 refine GoC.region ?_
 refine GoO.pure (ps_add rfl rfl rfl hIk12) ?_
 refine GoO.pure (ps_move rfl rfl) ?_
 refine GoO.nil ?_
 obtain rfl := Option.some.inj H
 exact GoK.againJ m13' (by omega) ⟨_, ⟨by omega, hF10⟩, rfl, rfl⟩ (EnvD.eq rfl (EnvD.eq rfl (EnvD.eq rfl (EnvD.eq rfl (EnvD.eq rfl (EnvD.eq rfl (EnvD.nil))))))) (TkD.nil _)
 replace H := itb_f h17 H
 refine GoC.skip ?_
 refine GoK.blk ?_
 refine GoK.code ?_
 refine GoC.region ?_
 refine GoO.pure (ps_add rfl rfl rfl hIk12) ?_
 refine GoO.pure (ps_move rfl rfl) ?_
 refine GoO.nil ?_
 obtain rfl := Option.some.inj H
 exact GoK.againJ m13' (by omega) ⟨_, ⟨by omega, hF10⟩, rfl, rfl⟩ (EnvD.eq rfl (EnvD.eq rfl (EnvD.eq rfl (EnvD.eq rfl (EnvD.eq rfl (EnvD.eq rfl (EnvD.nil))))))) (TkD.nil _)
 replace H := ite_f h14 H
 refine GoO.guardF rfl rfl rfl rfl ?_
 refine GoO.guardF rfl rfl rfl rfl ?_
 refine GoO.guardF rfl rfl rfl rfl ?_
 refine GoO.pure (ps_pickF rfl rfl rfl) ?_
 refine GoO.nil ?_
 refine GoK.code ?_
 refine GoC.condF rfl ?_
 refine GoC.skip ?_
 refine GoK.blk ?_
 refine GoK.code ?_
 refine GoC.region ?_
 refine GoO.pure (ps_add rfl rfl rfl hIk12) ?_
 refine GoO.pure (ps_move rfl rfl) ?_
 refine GoO.nil ?_
 obtain rfl := Option.some.inj H
 exact GoK.againJ m13' (by omega) ⟨_, ⟨by omega, hF10⟩, rfl, rfl⟩ (EnvD.eq rfl (EnvD.eq rfl (EnvD.eq rfl (EnvD.eq rfl (EnvD.eq rfl (EnvD.eq rfl (EnvD.nil))))))) (TkD.nil _)
 obtain rfl : m13 = 0 := by omega
 refine GoC.exit rfl ?_
 cases hF10
 exact GoK.meet ⟨rfl, rfl, rfl⟩ (EnvD.nil) (TkD.nil _)
 rintro v h ⟨rfl, rfl, rfl⟩
 have H := HK9; clear HK9
 refine GoK.code ?_
 refine GoC.seq ?_
 refine GoC.region ?_
 refine GoO.pure (ps_assign rfl rfl) ?_
 refine GoO.nil ?_
 refine GoK.code ?_
 obtain rfl := Option.some.inj H
 refine GoC.le (le_row0 3 1 (row ([] : List Int)) rfl) ?_
 exact GoC.retL (ds := [nilD ⟨0, 0, 0⟩ 1 0]) Try.results48 (ResL.cons (ResD.tmp rfl) (ResL.nil)) (Take.cons _ _ _ _ _ Rem.p0 (Take.nil _)) ⟨⟨0, 0, 0⟩, rfl, rfl⟩

def double_Split_B1 (t : (List (List Int))) : Nat → (List (List Int)) → Option ((List (List Int))) := fun k16 g10 =>
 (slices_Clone_int_F (t.getD k16 [])).bind fun r18 =>
 ck (k16 < g10.length) <|
 some (g10.set k16 r18)
def double_Split_B3 (g25 : (List (List Int))) (r38 : (List Int)) : Nat → Int → Option (Int) := fun k48 x43 =>
 ck (k48 < g25.length) <|
 ck (0 ≤ (r38.getD k48 (0 : Int)) ∧ (r38.getD k48 (0 : Int)) < (((g25.getD k48 []).length : Nat) : Int)) <|
 some (min x43 ((g25.getD k48 []).getD ((r38.getD k48 (0 : Int)).toNat) (0 : Int)))
def double_Split_B4 (r38 : (List Int)) (x47 : Int) : Nat → (List (List Int)) → Option ((List (List Int))) := fun k59 g53 =>
 ck (k59 < g53.length) <|
 ck (0 ≤ (r38.getD k59 (0 : Int)) ∧ (r38.getD k59 (0 : Int)) < (((g53.getD k59 []).length : Nat) : Int)) <|
 ck (InI (((g53.getD k59 []).getD ((r38.getD k59 (0 : Int)).toNat) (0 : Int)) - x47)) <|
 some (g53.set k59 ((g53.getD k59 []).set ((r38.getD k59 (0 : Int)).toNat) (((g53.getD k59 []).getD ((r38.getD k59 (0 : Int)).toNat) (0 : Int)) - x47)))
def double_Split_B2 : (Int × (List (List Int)) × (List Piece)) → Option (Ct (Int × (List (List Int)) × (List Piece)) ((List Piece) × Int)) := fun (x24, g25, g28) =>
 if 0 < x24 then
  (double_first_F 100 g25 0 []).bind fun r38 =>
  (forN (double_Split_B3 g25 r38) r38.length 0 x24).bind fun x47 =>
  (forN (double_Split_B4 r38 x47) r38.length 0 g25).bind fun g58 =>
  ck (InI (x24 - x47)) <|
  ck (g28.length + 1 ≤ 4398046511104) <|
  some (.go ((x24 - x47), g58, (g28 ++ [(⟨x47, r38⟩ : Piece)])))
 else
  some (.brk (x24, g25, g28))
def double_Split_F (t : (List (List Int))) : Option ((List Piece) × Int) :=
 (double_Check_F t).bind fun (r2, r3) =>
 if r3 ≠ 0 then
  some (([] : List Piece), r3)
 else
  ck (0 ≤ ((t.length : Nat) : Int) ∧ ((t.length : Nat) : Int) ≤ 10000000000) <|
  (forN (double_Split_B1 t) t.length 0 (List.replicate (((t.length : Nat) : Int).toNat) ([] : List Int))).bind fun g15 =>
  (loopC (double_Split_B2) 1000000 (r2, g15, ([] : List Piece))).bind fun q => match q with
  | .go (x33, g34, g35) =>
   some (g35, 0)
  | .ret x => some x
def double_Split_P (out : (List Piece) × Int) (d : D) (H : List HL) : Prop := ∃ β1 : BK, ∃ Γr0 : Nat → BK, d = .tp 2 (nth [.own β1 2 0 out.1.length, .v (.int .i64 out.2)]) ∧ H = [.one β1 50 2 (gridS (α := Piece) Γr0 out.1), gridI (α := Piece) 3 Γr0 out.1]
theorem double_Split_I (out : (List Piece) × Int) : IndepP (double_Split_P out) := IndepP.of (by rintro _ _ ⟨β1, Γr0, rfl, rfl⟩; exact ⟨inferInstance, inferInstance⟩)
set_option maxRecDepth 100000 in
set_option maxHeartbeats 4000000 in
theorem double_Split_spec (t : (List (List Int))) {out : (List Piece) × Int} (H : double_Split_F t = some out) : Does Try.prog 22 [slD t] [] (double_Split_P out) := by
 unfold double_Split_F at H
 refine Does.intro Try.func22 rfl Try.ntmps22 rfl fun w0 I0 => ?_
 refine GoC.seq ?_
 refine GoC.region ?_
 refine GoO.pure (ps_assign rfl rfl) ?_
 obtain ⟨β1, hβ1⟩ : ∃ β : BK, β = ⟨0, 0, 0⟩ := ⟨_, rfl⟩
 refine GoO.le (Le.gsI 3 Piece) ?_
 refine GoO.le (le_nil 2 50 2 (gridS (α := Piece) (fun _ => ⟨0, 0, 0⟩) []) rfl rfl) ?_
 rw [← hβ1]
 refine GoO.pure (ps_assign rfl rfl) ?_
 refine GoO.nil ?_
 refine GoK.code ?_
 refine GoC.seq ?_
 refine GoC.region ?_
 refine GoO.pure (ps_move rfl rfl) ?_
 have hb := bind_l H; clear H
 obtain ⟨⟨r2, r3⟩, e4, H⟩ := hb
 refine GoO.effC (ef_call rfl (Take.nil _) (Take.nil _) (double_Check_spec t e4) (LendL.cons (Lend.refl _ _) (LendL.nil)) rfl (double_Check_I (r2, r3))) (fun rr HH hp => ?_)
 obtain ⟨rfl, rfl⟩ := hp
 refine GoO.pure (ps_move rfl rfl) ?_
 refine GoO.pure (ps_extract rfl rfl rfl) ?_
 refine GoO.pure (ps_extract rfl rfl rfl) ?_
 refine GoO.pure (ps_assign rfl rfl) ?_
 refine GoO.pure (ps_assign rfl rfl) ?_
 refine GoO.nil ?_
 refine GoK.code ?_
 refine GoC.seq ?_
 refine GoC.seq ?_
 refine GoC.region ?_
 refine GoO.pure (ps_move rfl rfl) ?_
 refine GoO.pure (ps_neq rfl rfl rfl) ?_
 refine GoO.nil ?_
 refine GoK.code ?_
 refine GoC.condD rfl (fun h5 => ?_) (fun h5 => ?_)
 replace H := ite_t h5 H
 refine GoC.seq ?_
 refine GoC.region ?_
 refine GoO.pure (ps_move rfl rfl) ?_
 refine GoO.pure (ps_assign rfl rfl) ?_
 obtain ⟨β6, hβ6⟩ : ∃ β : BK, β = ⟨0, 0, 0⟩ := ⟨_, rfl⟩
 refine GoO.le (Le.gsI 3 Piece) ?_
 refine GoO.le (le_nil 2 50 2 (gridS (α := Piece) (fun _ => ⟨0, 0, 0⟩) []) rfl rfl) ?_
 rw [← hβ6]
 refine GoO.pure (ps_assign rfl rfl) ?_
 refine GoO.nil ?_
 refine GoK.code ?_
 obtain rfl := Option.some.inj H
 exact GoC.retL (ds := [.own β6 2 0 ([] : List Piece).length, .v (.int .i64 r3)]) Try.results22 (ResL.cons (ResD.le (ResD.tmp rfl) (by exact DLe.len (by first | rfl | omega | (simp only [row_len, gridC_len, rowO_len, gridS_len, List.length_cons, List.length_nil, List.length_nil] <;> first | rfl | omega)))) (ResL.cons (ResD.tmp rfl) (ResL.nil))) (Take.cons _ _ _ _ _ Rem.p0 (Take.cons _ _ _ _ _ Rem.p0 (Take.nil _))) ⟨β6, (fun _ => β6), rfl, rfl⟩
 replace H := ite_f h5 H
 refine GoC.skip ?_
 refine GoK.code ?_
 refine GoC.seq ?_
 refine GoC.region ?_
 refine GoO.pure (ps_move rfl rfl) ?_
 refine GoO.pure (ps_len rfl (by constructor) rfl) ?_
 refine GoO.lenLe (n := t.length) (x := .tmp 23) rfl (by constructor) sl_lenLe (fun ml7 => ?_)
 have c9 := ck_l H; replace H := ck_r H
 refine GoO.effB (ef_makeZ rfl rfl c9 rfl rfl rfl) (fun β8 => ?_)
 refine GoO.le (Le.reH At.p0 (HLe.grid0Z (α := Int) (n := ((t.length : Nat) : Int).toNat) (fun _ => DLe.nilOwn))) ?_
 refine GoO.le (Le.grid0 3 Int (((t.length : Nat) : Int).toNat)) ?_
 refine GoO.pure (ps_assign rfl rfl) ?_
 refine GoO.nil ?_
 refine GoK.code ?_
 refine GoC.seq ?_
 refine GoC.seq ?_
 refine GoC.region ?_
 refine GoO.pure (ps_move rfl rfl) ?_
 refine GoO.pure (ps_len rfl (by constructor) rfl) ?_
 refine GoO.pure (ps_move rfl rfl) ?_
 refine GoO.nil ?_
 refine GoK.code ?_
 have hb := bind_l H; clear H
 obtain ⟨g15, hl22, HK12⟩ := hb
 refine GoC.blockJ [(4, .v (.int .i64 r2))] [.one β1 50 2 (gridS (α := Piece) (fun _ => β1) ([] : List Piece)), gridI (α := Piece) 3 (fun _ => β1) ([] : List Piece)] (fun v h => ∃ (Γ11 : Nat → BK), v = [(6, .own β8 1 0 g15.length)] ∧ h = [.one β8 30 1 (gridC Γ11 g15), gridH (α := Int) 3 Γ11 g15]) ?_ ?_
 refine GoC.loopJ [(4, _), (26, _), (27, _)] [.one β1 50 2 (gridS (α := Piece) (fun _ => β1) ([] : List Piece)), gridI (α := Piece) 3 (fun _ => β1) ([] : List Piece)] (fun mQ v h => ∃ (k16 : Nat) (g10 : (List (List Int))) (Γ11 : Nat → BK), (k16 + mQ = t.length ∧ forN (double_Split_B1 t) mQ k16 g10 = some g15) ∧ v = [(28, .v (.int .i64 ((k16 : Nat) : Int))), (6, .own β8 1 0 g10.length)] ∧ h = [.one β8 30 1 (gridC Γ11 g10), gridH (α := Int) 3 Γ11 g10]) t.length ⟨_, _, (fun _ => (⟨0, 0, 0⟩ : BK)), ⟨by omega, hl22⟩, rfl, rfl⟩ (EnvD.eq rfl (EnvD.cons rfl (DLe.len (by first | rfl | omega | (simp only [row_len, gridC_len, rowO_len, gridS_len, List.length_cons, List.length_nil, List.length_replicate, List.length_nil] <;> first | rfl | omega))) (EnvD.eq rfl (EnvD.eq rfl (EnvD.eq rfl (EnvD.nil)))))) (TkD.cons _ _ _ _ _ Rem.p1 (HLe.refl _) (TkD.cons _ _ _ _ _ Rem.p0 (HLe.refl _) (TkD.cons _ _ _ _ _ Rem.p0 (HLe.refl _) (TkD.cons _ _ _ _ _ Rem.p0 (HLe.refl _) (TkD.nil _))))) ?_
 rintro m17 v h ⟨k16, g10, Γ11, ⟨hkk16, hF13⟩, rfl, rfl⟩
 refine GoC.seq ?_
 refine GoC.region ?_
 refine GoO.pure (ps_lss rfl rfl rfl) ?_
 refine GoO.nil ?_
 refine GoK.code ?_
 refine GoC.seq ?_
 refine GoC.condD rfl (fun (hk16 : (k16 : Int) < ((t.length : Nat) : Int)) => ?_) (fun (hk16 : ¬ (k16 : Int) < ((t.length : Nat) : Int)) => ?_)
 obtain ⟨m17', rfl⟩ : ∃ x, m17 = x + 1 := ⟨m17 - 1, by omega⟩
 have hb := bind_l hF13; clear hF13
 obtain ⟨qrm17, H, hF13⟩ := hb
 have hnk16 : k16 < t.length := by omega
 have hIk16 : InI ((k16 : Int) + 1) := inI_len hk16 ml7
 refine GoC.skip ?_
 refine GoK.code ?_
 refine GoC.seq ?_
 refine GoC.block ?_
 refine GoC.seq ?_
 refine GoC.region ?_
 refine GoO.pure (ps_move rfl rfl) ?_
 refine GoO.pure (ps_indexAddrRN rfl rfl hnk16 rfl) ?_
 refine GoO.pure (ps_loadR rfl hnk16 rfl rfl) ?_
 refine GoO.pure (ps_assign rfl rfl) ?_
 refine GoO.pure (ps_assign rfl rfl) ?_
 refine GoO.nil ?_
 refine GoK.code ?_
 refine GoC.region ?_
 refine GoO.pure (ps_move rfl rfl) ?_
 refine GoO.pure (ps_move rfl rfl) ?_
 refine GoO.pure (ps_move rfl rfl) ?_
 have hb := bind_l H; clear H
 obtain ⟨r18, e20, H⟩ := hb
 refine GoO.effC (ef_call rfl (Take.nil _) (Take.nil _) (slices_Clone_int_spec (t.getD k16 []) e20) (LendL.cons (Lend.refl _ _) (LendL.nil)) rfl (slices_Clone_int_I (r18))) (fun rr HH hp => ?_)
 obtain ⟨β19, rfl, rfl⟩ := hp
 have c21 := ck_l H; replace H := ck_r H
 refine GoO.pure (ps_indexAddr0N rfl rfl c21 rfl) ?_
 refine GoO.eff1 (ef_store rfl rfl rfl At.p1 (upd_grid (α := Int) (ys := r18) rfl (by first | rfl | omega | (simp only [subl_length, cpl_length, List.length_set, List.length_append, List.length_cons, List.length_nil, List.length_replicate, row_len]; omega) | (simp only [subl_length, cpl_length, List.length_set, List.length_append, List.length_cons, List.length_nil, List.length_replicate, row_len]; done) | simp)) c21 rfl) ?_
 refine GoO.le (Le.absorb (α := Int) (B := Γ11) (xs := g10) (ys := r18) (i := k16) Rem.p0 Rem.p1 rfl (fun _ _ => rfl) (fun _ _ => rfl)) ?_
 refine GoO.nil ?_
 refine GoK.blk ?_
 refine GoK.code ?_
 refine GoC.region ?_
 refine GoO.pure (ps_add rfl rfl rfl hIk16) ?_
 refine GoO.pure (ps_move rfl rfl) ?_
 refine GoO.nil ?_
 obtain rfl := Option.some.inj H
 exact GoK.againJ m17' (by omega) ⟨_, _, (updF Γ11 k16 β19), ⟨by omega, hF13⟩, rfl, rfl⟩ (EnvD.eq rfl (EnvD.cons rfl (DLe.len (by first | rfl | omega | (simp only [row_len, gridC_len, rowO_len, gridS_len, List.length_set] <;> first | rfl | omega))) (EnvD.eq rfl (EnvD.eq rfl (EnvD.eq rfl (EnvD.nil)))))) (TkD.cons _ _ _ _ _ Rem.p1 (HLe.refl _) (TkD.cons _ _ _ _ _ Rem.p0 (HLe.refl _) (TkD.cons _ _ _ _ _ Rem.p0 (HLe.refl _) (TkD.cons _ _ _ _ _ Rem.p0 (HLe.refl _) (TkD.nil _)))))
 obtain rfl : m17 = 0 := by omega
 refine GoC.exit rfl ?_
 cases hF13
 exact GoK.meet ⟨Γ11, rfl, rfl⟩ (EnvD.cons rfl (DLe.len (by first | rfl | omega | (simp only [row_len, gridC_len, rowO_len, gridS_len] <;> first | rfl | omega))) (EnvD.eq rfl (EnvD.nil))) (TkD.cons _ _ _ _ _ Rem.p0 (HLe.refl _) (TkD.cons _ _ _ _ _ Rem.p0 (HLe.refl _) (TkD.cons _ _ _ _ _ Rem.p0 (HLe.refl _) (TkD.cons _ _ _ _ _ Rem.p0 (HLe.refl _) (TkD.nil _)))))
 rintro v h ⟨Γ11, rfl, rfl⟩
 have H := HK12; clear HK12
 refine GoK.code ?_
 refine GoC.seq ?_
 refine GoC.region ?_
 refine GoO.pure (ps_assign rfl rfl) ?_
 obtain ⟨β23, hβ23⟩ : ∃ β : BK, β = ⟨0, 0, 0⟩ := ⟨_, rfl⟩
 refine GoO.le (Le.gsI 3 Piece) ?_
 refine GoO.le (le_nil 9 50 2 (gridS (α := Piece) (fun _ => ⟨0, 0, 0⟩) []) rfl rfl) ?_
 rw [← hβ23]
 refine GoO.nil ?_
 refine GoK.code ?_
 refine GoC.seq ?_
 have hb := bind_l H; clear H
 obtain ⟨q32, hl69, HK30⟩ := hb
 refine GoC.blockJ [] [.one β1 50 2 (gridS (α := Piece) (fun _ => β1) ([] : List Piece)), gridI (α := Piece) 3 (fun _ => β1) ([] : List Piece)] (fun v h => ∃ (x33 : Int) (g34 : (List (List Int))) (g35 : (List Piece)) (Γ26 : Nat → BK) (β27 : BK) (Γ29 : Nat → BK), q32 = .go (x33, g34, g35) ∧ v = [(9, .own β27 2 0 g35.length)] ∧ h = [.one β8 30 1 (gridC Γ26 g34), gridH (α := Int) 3 Γ26 g34, .one β27 50 2 (gridS (α := Piece) Γ29 g35), gridI (α := Piece) 3 Γ29 g35]) ?_ ?_
 refine GoC.loopJ [] [.one β1 50 2 (gridS (α := Piece) (fun _ => β1) ([] : List Piece)), gridI (α := Piece) 3 (fun _ => β1) ([] : List Piece)] (fun mQ v h => ∃ (x24 : Int) (g25 : (List (List Int))) (g28 : (List Piece)) (Γ26 : Nat → BK) (β27 : BK) (Γ29 : Nat → BK), loopC (double_Split_B2) mQ (x24, g25, g28) = some q32 ∧ v = [(4, .v (.int .i64 x24)), (6, .own β8 1 0 g25.length), (9, .own β27 2 0 g28.length)] ∧ h = [.one β8 30 1 (gridC Γ26 g25), gridH (α := Int) 3 Γ26 g25, .one β27 50 2 (gridS (α := Piece) Γ29 g28), gridI (α := Piece) 3 Γ29 g28]) 1000000 ⟨_, _, _, Γ11, β23, (fun _ => β23), hl69, rfl, rfl⟩ (EnvD.eq rfl (EnvD.cons rfl (DLe.len (by first | rfl | omega | (simp only [row_len, gridC_len, rowO_len, gridS_len] <;> first | rfl | omega))) (EnvD.cons rfl (DLe.len (by first | rfl | omega | (simp only [row_len, gridC_len, rowO_len, gridS_len, List.length_cons, List.length_nil, List.length_nil] <;> first | rfl | omega))) (EnvD.nil)))) (TkD.cons _ _ _ _ _ Rem.p2 (HLe.refl _) (TkD.cons _ _ _ _ _ Rem.p2 (HLe.refl _) (TkD.cons _ _ _ _ _ Rem.p0 (HLe.refl _) (TkD.cons _ _ _ _ _ Rem.p0 (HLe.refl _) (TkD.cons _ _ _ _ _ Rem.p0 (HLe.refl _) (TkD.cons _ _ _ _ _ Rem.p0 (HLe.refl _) (TkD.nil _))))))) ?_
 rintro m36 v h ⟨x24, g25, g28, Γ26, β27, Γ29, hF31, rfl, rfl⟩
 obtain ⟨m36', rfl⟩ | rfl : (∃ x, m36 = x + 1) ∨ m36 = 0 := by cases m36 <;> simp
 case inr => cases hF31
 have hb := bind_l hF31; clear hF31
 obtain ⟨qrm36, H, hF31⟩ := hb
 refine GoC.seq ?_
 refine GoC.seq ?_
 refine GoC.region ?_
 refine GoO.pure (ps_move rfl rfl) ?_
 refine GoO.pure (ps_gtr rfl rfl rfl) ?_
 refine GoO.nil ?_
 refine GoK.code ?_
 refine GoC.condD rfl (fun h37 => ?_) (fun h37 => ?_)
 replace H := ite_t h37 H
 refine GoC.skip ?_
 refine GoK.code ?_
 refine GoC.block ?_
 refine GoC.seq ?_
 refine GoC.region ?_
 refine GoO.pure (ps_move rfl rfl) ?_
 refine GoO.pure (ps_move rfl rfl) ?_
 have hb := bind_l H; clear H
 obtain ⟨r38, e40, H⟩ := hb
 refine GoO.effC (ef_call rfl (Take.nil _) (Take.cons _ _ _ _ _ Rem.p0 (Take.cons _ _ _ _ _ Rem.p0 (Take.nil _))) (double_first_spec 100 g25 0 [] e40) (LendL.cons (Lend.grid (α := Int) (xs := g25) At.p0 At.p1 (by first | rfl | omega | (simp only [subl_length, cpl_length, List.length_set, List.length_append, List.length_cons, List.length_nil, List.length_replicate, row_len]; omega) | (simp only [subl_length, cpl_length, List.length_set, List.length_append, List.length_cons, List.length_nil, List.length_replicate, row_len]; done) | simp)) (LendL.cons (Lend.refl _ _) (LendL.cons (Lend.nil) (LendL.nil)))) rfl (double_first_I (r38))) (fun rr HH hp => ?_)
 obtain ⟨β39, rfl, rfl⟩ := hp
 refine GoO.le (Le.re 43 rfl DLe.ofNil) ?_
 refine GoO.pure (ps_build (Parts.cons _ _ _ _ _ _ _ _ FdP.of (Part.one _ rfl rfl) rfl rfl (Parts.cons _ _ _ _ _ _ _ _ FdP.of (Part.one _ rfl rfl) rfl rfl (Parts.nil _))) rfl) ?_
 refine GoO.effB (ef_alloc rfl) (fun β41 => ?_)
 refine GoO.eff1 (ef_storeAg rfl rfl At.p0 upd_whole Nat.zero_lt_one rfl) ?_
 refine GoO.nil ?_
 refine GoK.code ?_
 refine GoC.seq ?_
 refine GoC.seq ?_
 refine GoC.region ?_
 refine GoO.pure (ps_fieldAddr rfl rfl) ?_
 refine GoO.pure (ps_load rfl At.p0 At.p0 Nat.zero_lt_one rfl rfl) ?_
 refine GoO.pure (ps_len rfl (by constructor) rfl) ?_
 refine GoO.lenLe (n := r38.length) (x := .tmp 46) rfl (by constructor) own_lenLe (fun ml42 => ?_)
 refine GoO.pure (ps_move rfl rfl) ?_
 refine GoO.nil ?_
 refine GoK.code ?_
 have hb := bind_l H; clear H
 obtain ⟨x47, hl52, HK44⟩ := hb
 refine GoC.blockJ [(4, .v (.int .i64 x24)), (6, .own β8 1 0 g25.length), (9, .own β27 2 0 g28.length)] [.one β39 3 1 (row r38), .one β8 30 1 (gridC Γ26 g25), gridH (α := Int) 3 Γ26 g25, .one β27 50 2 (gridS (α := Piece) Γ29 g28), gridI (α := Piece) 3 Γ29 g28, .one β1 50 2 (gridS (α := Piece) (fun _ => β1) ([] : List Piece)), gridI (α := Piece) 3 (fun _ => β1) ([] : List Piece)] (fun v h => v = [(10, .ptr β41 2 0 0)] ∧ h = [.one β41 50 2 (st1 (nth [.v (.int .i64 x47), .own β39 1 0 r38.length]))]) ?_ ?_
 refine GoC.loopJ [(4, _), (6, _), (9, _), (46, _), (47, _)] [.one β39 3 1 (row r38), .one β8 30 1 (gridC Γ26 g25), gridH (α := Int) 3 Γ26 g25, .one β27 50 2 (gridS (α := Piece) Γ29 g28), gridI (α := Piece) 3 Γ29 g28, .one β1 50 2 (gridS (α := Piece) (fun _ => β1) ([] : List Piece)), gridI (α := Piece) 3 (fun _ => β1) ([] : List Piece)] (fun mQ v h => ∃ (k48 : Nat) (x43 : Int), (k48 + mQ = r38.length ∧ forN (double_Split_B3 g25 r38) mQ k48 x43 = some x47) ∧ v = [(48, .v (.int .i64 ((k48 : Nat) : Int))), (10, .ptr β41 2 0 0)] ∧ h = [.one β41 50 2 (st1 (nth [.v (.int .i64 x43), .own β39 1 0 r38.length]))]) r38.length ⟨_, _, ⟨by omega, hl52⟩, rfl, rfl⟩ (EnvD.eq rfl (EnvD.eq rfl (EnvD.eq rfl (EnvD.eq rfl (EnvD.eq rfl (EnvD.eq rfl (EnvD.eq rfl (EnvD.nil)))))))) (TkD.cons _ _ _ _ _ Rem.p0 (HLe.st ⟨⟨trivial, DLe.refl _⟩, DLe.refl _⟩) (TkD.cons _ _ _ _ _ Rem.p0 (HLe.refl _) (TkD.cons _ _ _ _ _ Rem.p0 (HLe.refl _) (TkD.cons _ _ _ _ _ Rem.p0 (HLe.refl _) (TkD.cons _ _ _ _ _ Rem.p0 (HLe.refl _) (TkD.cons _ _ _ _ _ Rem.p0 (HLe.refl _) (TkD.cons _ _ _ _ _ Rem.p0 (HLe.refl _) (TkD.cons _ _ _ _ _ Rem.p0 (HLe.refl _) (TkD.nil _))))))))) ?_
 rintro m49 v h ⟨k48, x43, ⟨hkk48, hF45⟩, rfl, rfl⟩
 refine GoC.seq ?_
 refine GoC.region ?_
 refine GoO.pure (ps_lss rfl rfl rfl) ?_
 refine GoO.nil ?_
 refine GoK.code ?_
 refine GoC.seq ?_
 refine GoC.condD rfl (fun (hk48 : (k48 : Int) < ((r38.length : Nat) : Int)) => ?_) (fun (hk48 : ¬ (k48 : Int) < ((r38.length : Nat) : Int)) => ?_)
 obtain ⟨m49', rfl⟩ : ∃ x, m49 = x + 1 := ⟨m49 - 1, by omega⟩
 have hb := bind_l hF45; clear hF45
 obtain ⟨qrm49, H, hF45⟩ := hb
 have hnk48 : k48 < r38.length := by omega
 have hIk48 : InI ((k48 : Int) + 1) := inI_len hk48 ml42
 refine GoC.skip ?_
 refine GoK.code ?_
 refine GoC.seq ?_
 refine GoC.block ?_
 refine GoC.seq ?_
 refine GoC.region ?_
 refine GoO.pure (ps_move rfl rfl) ?_
 refine GoO.pure (ps_indexAddr0N rfl rfl hnk48 rfl) ?_
 refine GoO.pure (ps_load rfl At.p1 At.p1 hnk48 rfl rfl) ?_
 refine GoO.pure (ps_assign rfl rfl) ?_
 refine GoO.pure (ps_assign rfl rfl) ?_
 refine GoO.nil ?_
 refine GoK.code ?_
 refine GoC.drawQ (.q 0 (.q 1 (.q 2 (.q 3 (.q 4 (.q 5 (.q 6 (.q 7 (.q 8 (.q 9 (.q 10 (.one 11 (.done))))))))))))) 11 follows (by kernel_rfl) ?_
 refine GoQ.qP rfl rfl (ps_fieldAddr rfl rfl) ?_
 refine GoQ.qN rfl (by kernel_rfl) (ps_load rfl At.p0 At.p0 Nat.zero_lt_one rfl rfl) ?_
 refine GoQ.qP rfl rfl (ps_move rfl rfl) ?_
 refine GoQ.qP rfl rfl (ps_move rfl rfl) ?_
 have c50 := ck_l H; replace H := ck_r H
 refine GoQ.qP rfl rfl (ps_indexAddr0N rfl rfl c50 rfl) ?_
 refine GoQ.qN rfl (by kernel_rfl) (ps_load rfl At.p2 At.p2 c50 rfl rfl) ?_
 refine GoQ.qP rfl rfl (ps_move rfl rfl) ?_
 have c51 := ck_l H; replace H := ck_r H
 refine GoQ.qP rfl rfl (ps_indexAddr0 rfl rfl c51 rfl) ?_
 refine GoQ.qN rfl (by kernel_rfl) (ps_loadG (α := Int) (xs := g25) rfl rfl At.p3 At.p3 c50 (idx_lt c51) rfl rfl) ?_
 refine GoQ.qP rfl rfl (ps_min rfl rfl rfl) ?_
 refine GoQ.qP rfl rfl (ps_fieldAddr rfl rfl) ?_
 refine GoQ.last1 rfl trivial (ef_store rfl rfl rfl At.p0 upd_st1 Nat.zero_lt_one rfl) (Take.cons _ _ _ _ _ Rem.p0 (Take.nil _)) ?_
 refine GoP.done ?_
 refine GoK.blk ?_
 refine GoK.code ?_
 refine GoC.region ?_
 refine GoO.pure (ps_add rfl rfl rfl hIk48) ?_
 refine GoO.pure (ps_move rfl rfl) ?_
 refine GoO.nil ?_
 obtain rfl := Option.some.inj H
 exact GoK.againJ m49' (by omega) ⟨_, _, ⟨by omega, hF45⟩, rfl, rfl⟩ (EnvD.eq rfl (EnvD.eq rfl (EnvD.eq rfl (EnvD.eq rfl (EnvD.eq rfl (EnvD.eq rfl (EnvD.eq rfl (EnvD.nil)))))))) (TkD.cons _ _ _ _ _ Rem.p0 (HLe.st ⟨⟨trivial, DLe.refl _⟩, DLe.refl _⟩) (TkD.cons _ _ _ _ _ Rem.p0 (HLe.refl _) (TkD.cons _ _ _ _ _ Rem.p0 (HLe.refl _) (TkD.cons _ _ _ _ _ Rem.p0 (HLe.refl _) (TkD.cons _ _ _ _ _ Rem.p0 (HLe.refl _) (TkD.cons _ _ _ _ _ Rem.p0 (HLe.refl _) (TkD.cons _ _ _ _ _ Rem.p0 (HLe.refl _) (TkD.cons _ _ _ _ _ Rem.p0 (HLe.refl _) (TkD.nil _)))))))))
 obtain rfl : m49 = 0 := by omega
 refine GoC.exit rfl ?_
 cases hF45
 exact GoK.meet ⟨rfl, rfl⟩ (EnvD.eq rfl (EnvD.eq rfl (EnvD.eq rfl (EnvD.eq rfl (EnvD.nil))))) (TkD.cons _ _ _ _ _ Rem.p0 (HLe.st ⟨⟨trivial, DLe.refl _⟩, DLe.refl _⟩) (TkD.cons _ _ _ _ _ Rem.p0 (HLe.refl _) (TkD.cons _ _ _ _ _ Rem.p0 (HLe.refl _) (TkD.cons _ _ _ _ _ Rem.p0 (HLe.refl _) (TkD.cons _ _ _ _ _ Rem.p0 (HLe.refl _) (TkD.cons _ _ _ _ _ Rem.p0 (HLe.refl _) (TkD.cons _ _ _ _ _ Rem.p0 (HLe.refl _) (TkD.cons _ _ _ _ _ Rem.p0 (HLe.refl _) (TkD.nil _)))))))))
 rintro v h ⟨rfl, rfl⟩
 have H := HK44; clear HK44
 refine GoK.code ?_
 refine GoC.seq ?_
 refine GoC.seq ?_
 refine GoC.region ?_
 refine GoO.pure (ps_fieldAddr rfl rfl) ?_
 refine GoO.pure (ps_load rfl At.p0 At.p0 Nat.zero_lt_one rfl rfl) ?_
 refine GoO.pure (ps_len rfl (by constructor) rfl) ?_
 refine GoO.pure (ps_move rfl rfl) ?_
 refine GoO.nil ?_
 refine GoK.code ?_
 have hb := bind_l H; clear H
 obtain ⟨g58, hl64, HK55⟩ := hb
 refine GoC.blockJ [(4, .v (.int .i64 x24)), (9, .own β27 2 0 g28.length), (10, .ptr β41 2 0 0)] [.one β41 50 2 (st1 (nth [.v (.int .i64 x47), .own β39 1 0 r38.length])), .one β39 3 1 (row r38), .one β27 50 2 (gridS (α := Piece) Γ29 g28), gridI (α := Piece) 3 Γ29 g28, .one β1 50 2 (gridS (α := Piece) (fun _ => β1) ([] : List Piece)), gridI (α := Piece) 3 (fun _ => β1) ([] : List Piece)] (fun v h => ∃ (Γ54 : Nat → BK), v = [(6, .own β8 1 0 g58.length)] ∧ h = [.one β8 30 1 (gridC Γ54 g58), gridH (α := Int) 3 Γ54 g58]) ?_ ?_
 refine GoC.loopJ [(4, _), (9, _), (10, _), (66, _), (67, _)] [.one β41 50 2 (st1 (nth [.v (.int .i64 x47), .own β39 1 0 r38.length])), .one β39 3 1 (row r38), .one β27 50 2 (gridS (α := Piece) Γ29 g28), gridI (α := Piece) 3 Γ29 g28, .one β1 50 2 (gridS (α := Piece) (fun _ => β1) ([] : List Piece)), gridI (α := Piece) 3 (fun _ => β1) ([] : List Piece)] (fun mQ v h => ∃ (k59 : Nat) (g53 : (List (List Int))) (Γ54 : Nat → BK), (k59 + mQ = r38.length ∧ forN (double_Split_B4 r38 x47) mQ k59 g53 = some g58) ∧ v = [(68, .v (.int .i64 ((k59 : Nat) : Int))), (6, .own β8 1 0 g53.length)] ∧ h = [.one β8 30 1 (gridC Γ54 g53), gridH (α := Int) 3 Γ54 g53]) r38.length ⟨_, _, Γ26, ⟨by omega, hl64⟩, rfl, rfl⟩ (EnvD.eq rfl (EnvD.cons rfl (DLe.len (by first | rfl | omega | (simp only [row_len, gridC_len, rowO_len, gridS_len] <;> first | rfl | omega))) (EnvD.eq rfl (EnvD.eq rfl (EnvD.eq rfl (EnvD.eq rfl (EnvD.eq rfl (EnvD.nil)))))))) (TkD.cons _ _ _ _ _ Rem.p2 (HLe.refl _) (TkD.cons _ _ _ _ _ Rem.p2 (HLe.refl _) (TkD.cons _ _ _ _ _ Rem.p0 (HLe.st ⟨⟨trivial, DLe.refl _⟩, DLe.refl _⟩) (TkD.cons _ _ _ _ _ Rem.p0 (HLe.refl _) (TkD.cons _ _ _ _ _ Rem.p0 (HLe.refl _) (TkD.cons _ _ _ _ _ Rem.p0 (HLe.refl _) (TkD.cons _ _ _ _ _ Rem.p0 (HLe.refl _) (TkD.cons _ _ _ _ _ Rem.p0 (HLe.refl _) (TkD.nil _))))))))) ?_
 rintro m60 v h ⟨k59, g53, Γ54, ⟨hkk59, hF56⟩, rfl, rfl⟩
 refine GoC.seq ?_
 refine GoC.region ?_
 refine GoO.pure (ps_lss rfl rfl rfl) ?_
 refine GoO.nil ?_
 refine GoK.code ?_
 refine GoC.seq ?_
 refine GoC.condD rfl (fun (hk59 : (k59 : Int) < ((r38.length : Nat) : Int)) => ?_) (fun (hk59 : ¬ (k59 : Int) < ((r38.length : Nat) : Int)) => ?_)
 obtain ⟨m60', rfl⟩ : ∃ x, m60 = x + 1 := ⟨m60 - 1, by omega⟩
 have hb := bind_l hF56; clear hF56
 obtain ⟨qrm60, H, hF56⟩ := hb
 have hnk59 : k59 < r38.length := by omega
 have hIk59 : InI ((k59 : Int) + 1) := inI_len hk59 ml42
 refine GoC.skip ?_
 refine GoK.code ?_
 refine GoC.seq ?_
 refine GoC.block ?_
 refine GoC.seq ?_
 refine GoC.region ?_
 refine GoO.pure (ps_move rfl rfl) ?_
 refine GoO.pure (ps_indexAddr0N rfl rfl hnk59 rfl) ?_
 refine GoO.pure (ps_load rfl At.p3 At.p3 hnk59 rfl rfl) ?_
 refine GoO.pure (ps_assign rfl rfl) ?_
 refine GoO.pure (ps_assign rfl rfl) ?_
 refine GoO.nil ?_
 refine GoK.code ?_
 refine GoC.drawQ (.q 0 (.q 1 (.q 2 (.q 3 (.q 4 (.q 5 (.q 6 (.q 7 (.q 8 (.q 9 (.q 10 (.one 11 (.done))))))))))))) 11 follows (by kernel_rfl) ?_
 refine GoQ.qP rfl rfl (ps_move rfl rfl) ?_
 refine GoQ.qP rfl rfl (ps_move rfl rfl) ?_
 have c61 := ck_l H; replace H := ck_r H
 refine GoQ.qP rfl rfl (ps_indexAddr0N rfl rfl c61 rfl) ?_
 refine GoQ.qN rfl (by kernel_rfl) (ps_load rfl At.p0 At.p0 c61 rfl rfl) ?_
 refine GoQ.qP rfl rfl (ps_move rfl rfl) ?_
 have c62 := ck_l H; replace H := ck_r H
 refine GoQ.qP rfl rfl (ps_indexAddr0 rfl rfl c62 rfl) ?_
 refine GoQ.qN rfl (by kernel_rfl) (ps_loadG (α := Int) (xs := g53) rfl rfl At.p1 At.p1 c61 (idx_lt c62) rfl rfl) ?_
 refine GoQ.qP rfl rfl (ps_fieldAddr rfl rfl) ?_
 refine GoQ.qN rfl (by kernel_rfl) (ps_load rfl At.p2 At.p2 Nat.zero_lt_one rfl rfl) ?_
 have c63 := ck_l H; replace H := ck_r H
 refine GoQ.qP rfl rfl (ps_sub rfl rfl rfl c63) ?_
 refine GoQ.qP rfl rfl (ps_indexAddr0 rfl rfl c62 rfl) ?_
 refine GoQ.last1 rfl trivial (ef_storeG (α := Int) (xs := g53) (v := (((g53.getD k59 []).getD ((r38.getD k59 (0 : Int)).toNat) (0 : Int)) - x47)) rfl rfl rfl rfl At.p1 (upd_row1 (v := (((g53.getD k59 []).getD ((r38.getD k59 (0 : Int)).toNat) (0 : Int)) - x47)) rfl) c61 (idx_lt c62) rfl) (Take.cons _ _ _ _ _ Rem.p1 (Take.nil _)) ?_
 refine GoP.leD (Le.reH At.p0 (HLe.gridW (α := Int) (i := k59) (e := (r38.getD k59 (0 : Int)).toNat) (v := (((g53.getD k59 []).getD ((r38.getD k59 (0 : Int)).toNat) (0 : Int)) - x47)))) ?_
 refine GoP.done ?_
 refine GoK.blk ?_
 refine GoK.code ?_
 refine GoC.region ?_
 refine GoO.pure (ps_add rfl rfl rfl hIk59) ?_
 refine GoO.pure (ps_move rfl rfl) ?_
 refine GoO.nil ?_
 obtain rfl := Option.some.inj H
 exact GoK.againJ m60' (by omega) ⟨_, _, Γ54, ⟨by omega, hF56⟩, rfl, rfl⟩ (EnvD.eq rfl (EnvD.cons rfl (DLe.len (by first | rfl | omega | (simp only [row_len, gridC_len, rowO_len, gridS_len, List.length_set, List.length_cons, List.length_nil, List.length_nil] <;> first | rfl | omega))) (EnvD.eq rfl (EnvD.eq rfl (EnvD.eq rfl (EnvD.eq rfl (EnvD.eq rfl (EnvD.nil)))))))) (TkD.cons _ _ _ _ _ Rem.p0 (HLe.refl _) (TkD.cons _ _ _ _ _ Rem.p0 (HLe.refl _) (TkD.cons _ _ _ _ _ Rem.p0 (HLe.st ⟨⟨trivial, DLe.refl _⟩, DLe.refl _⟩) (TkD.cons _ _ _ _ _ Rem.p0 (HLe.refl _) (TkD.cons _ _ _ _ _ Rem.p0 (HLe.refl _) (TkD.cons _ _ _ _ _ Rem.p0 (HLe.refl _) (TkD.cons _ _ _ _ _ Rem.p0 (HLe.refl _) (TkD.cons _ _ _ _ _ Rem.p0 (HLe.refl _) (TkD.nil _)))))))))
 obtain rfl : m60 = 0 := by omega
 refine GoC.exit rfl ?_
 cases hF56
 exact GoK.meet ⟨Γ54, rfl, rfl⟩ (EnvD.cons rfl (DLe.len (by first | rfl | omega | (simp only [row_len, gridC_len, rowO_len, gridS_len] <;> first | rfl | omega))) (EnvD.eq rfl (EnvD.eq rfl (EnvD.eq rfl (EnvD.nil))))) (TkD.cons _ _ _ _ _ Rem.p0 (HLe.refl _) (TkD.cons _ _ _ _ _ Rem.p0 (HLe.refl _) (TkD.cons _ _ _ _ _ Rem.p0 (HLe.st ⟨⟨trivial, DLe.refl _⟩, DLe.refl _⟩) (TkD.cons _ _ _ _ _ Rem.p0 (HLe.refl _) (TkD.cons _ _ _ _ _ Rem.p0 (HLe.refl _) (TkD.cons _ _ _ _ _ Rem.p0 (HLe.refl _) (TkD.cons _ _ _ _ _ Rem.p0 (HLe.refl _) (TkD.cons _ _ _ _ _ Rem.p0 (HLe.refl _) (TkD.nil _)))))))))
 rintro v h ⟨Γ54, rfl, rfl⟩
 have H := HK55; clear HK55
 refine GoK.code ?_
 refine GoC.seq ?_
 refine GoC.region ?_
 refine GoO.pure (ps_move rfl rfl) ?_
 refine GoO.pure (ps_fieldAddr rfl rfl) ?_
 refine GoO.pure (ps_load rfl At.p2 At.p2 Nat.zero_lt_one rfl rfl) ?_
 have c65 := ck_l H; replace H := ck_r H
 refine GoO.pure (ps_sub rfl rfl rfl c65) ?_
 refine GoO.pure (ps_assign rfl rfl) ?_
 refine GoO.nil ?_
 refine GoK.code ?_
 refine GoC.region ?_
 refine GoO.pure (ps_move rfl rfl) ?_
 refine GoO.pure (ps_loadAg rfl At.p2 At.p2 Nat.zero_lt_one rfl rfl) ?_
 refine GoO.effB (ef_buildSlice (st1 (nth [.v (.int .i64 x47), .own β39 1 0 r38.length])) rfl (Parts.cons _ _ _ _ _ _ _ _ ⟨rfl, rfl⟩ (Part.ag _ _ rfl) rfl rfl (Parts.nil _)) rfl rfl rfl rfl) (fun β66 => ?_)
 have c67 := ck_l H; replace H := ck_r H
 refine GoO.effB (ef_append rfl rfl Rem.p5 (Src.own At.p0 (by show 0 + 1 ≤ 1; omega)) (cat_gs1 (α := Piece) (xs := g28) (γ := β39) (⟨x47, r38⟩ : Piece) rfl (by first | rfl | omega | (simp only [row_len, gridC_len, rowO_len, gridS_len] <;> first | rfl | omega)) (fun f hf => by have hf2 : f < 2 := hf; match f, hf2 with | 0, _ => rfl | 1, _ => rfl)) (by simp only [gridS_len, Nat.zero_add]; omega) (app_le c67 rfl) rfl rfl rfl) (fun β68 => ?_)
 refine GoO.pure (ps_assign rfl rfl) ?_
 refine GoO.nil ?_
 refine GoK.blk ?_
 refine GoK.le (Le.absorbS (α := Piece) (⟨x47, r38⟩ : Piece) Rem.p5 Rem.p5 rfl) ?_
 obtain rfl := Option.some.inj H
 exact GoK.againJ m36' (by omega) ⟨_, _, _, Γ54, β68, (updF Γ29 g28.length β39), hF31, rfl, rfl⟩ (EnvD.eq rfl (EnvD.cons rfl (DLe.len (by first | rfl | omega | (simp only [row_len, gridC_len, rowO_len, gridS_len] <;> first | rfl | omega))) (EnvD.cons rfl (DLe.len (by first | rfl | omega | (simp only [row_len, gridC_len, rowO_len, gridS_len, List.length_append, List.length_cons, List.length_nil] <;> first | rfl | omega))) (EnvD.nil)))) (TkD.cons _ _ _ _ _ Rem.p3 (HLe.refl _) (TkD.cons _ _ _ _ _ Rem.p3 (HLe.refl _) (TkD.cons _ _ _ _ _ Rem.p1 (HLe.refl _) (TkD.cons _ _ _ _ _ Rem.p0 (HLe.refl _) (TkD.cons _ _ _ _ _ Rem.p2 (HLe.refl _) (TkD.cons _ _ _ _ _ Rem.p2 (HLe.refl _) (TkD.nil _)))))))
 replace H := ite_f h37 H
 refine GoC.exit rfl ?_
 obtain rfl := Option.some.inj H
 obtain rfl := Option.some.inj hF31
 exact GoK.meet ⟨_, _, _, Γ26, β27, Γ29, rfl, rfl, rfl⟩ (EnvD.cons rfl (DLe.len (by first | rfl | omega | (simp only [row_len, gridC_len, rowO_len, gridS_len] <;> first | rfl | omega))) (EnvD.nil)) (TkD.cons _ _ _ _ _ Rem.p0 (HLe.refl _) (TkD.cons _ _ _ _ _ Rem.p0 (HLe.refl _) (TkD.cons _ _ _ _ _ Rem.p0 (HLe.refl _) (TkD.cons _ _ _ _ _ Rem.p0 (HLe.refl _) (TkD.cons _ _ _ _ _ Rem.p0 (HLe.refl _) (TkD.cons _ _ _ _ _ Rem.p0 (HLe.refl _) (TkD.nil _)))))))
 rintro v h ⟨x33, g34, g35, Γ26, β27, Γ29, rfl, rfl, rfl⟩
 have H := HK30; clear HK30
 refine GoK.code ?_
 refine GoC.seq ?_
 refine GoC.region ?_
 refine GoO.pure (ps_move rfl rfl) ?_
 refine GoO.pure (ps_assign rfl rfl) ?_
 refine GoO.pure (ps_assign rfl rfl) ?_
 refine GoO.nil ?_
 refine GoK.code ?_
 obtain rfl := Option.some.inj H
 exact GoC.retL (ds := [.own β27 2 0 g35.length, .v (.int .i64 0)]) Try.results22 (ResL.cons (ResD.tmp rfl) (ResL.cons (ResD.tmp rfl) (ResL.nil))) (Take.cons _ _ _ _ _ Rem.p2 (Take.cons _ _ _ _ _ Rem.p2 (Take.nil _))) ⟨β27, Γ29, rfl, rfl⟩

end Go.Proofs.Ytlpelkfcmeapiaa
