/- The functions double.Check, double.first, double.Split, told as plain functions, and that the code does as they say. -/
import Derived.Test.YtkpdkigkhbkfiaaTys
import Derived.Test.YtkpdkigkhbkfiaaDat
import Derived.Test.YtkpdkigkhbkfiaaGslices
namespace Go.Proofs.Ytkpdkigkhbkfiaa
open Go Go.Proofs.Ytkpdkigkhbkfiaa.Sx
set_option linter.unusedVariables false
set_option linter.unusedSimpArgs false
def double_Check_B2 (t : (List (List Int))) (k8 : Nat) : Nat → Int → Option (Ct (Int) (Ct (Int) (Int × Int))) := fun k17 x12 =>
 if ((t.getD k8 []).getD k17 (0 : Int)) < 0 then
  some (.ret (.ret (0, 1)))
 else
  if 1000 < ((t.getD k8 []).getD k17 (0 : Int)) then
   some (.ret (.ret (0, 1)))
  else
   if ((k8 : Nat) : Int) = 0 then
    ck (InI (x12 + ((t.getD k8 []).getD k17 (0 : Int)))) <|
    some (.go (x12 + ((t.getD k8 []).getD k17 (0 : Int))))
   else
    some (.go x12)
def double_Check_B1 (t : (List (List Int))) : Nat → Int → Option (Ct (Int) (Int × Int)) := fun k8 x3 =>
 if (((t.getD k8 []).length : Nat) : Int) ≠ ((t.length : Nat) : Int) then
  some (.ret (0, 3))
 else
  (forC (double_Check_B2 t k8) ((t.getD k8 []).length) 0 x3).bind fun q => match q with
  | .go x16 =>
   some (.go x16)
  | .ret x => some x
def double_Check_B4 (t : (List (List Int))) (k28 : Nat) : Nat → (Int × Int) → Option (Int × Int) := fun k37 (x30, x31) =>
 ck (k37 < (t.getD k28 []).length) <|
 ck (InI (x30 + ((t.getD k28 []).getD k37 (0 : Int)))) <|
 ck (k28 < (t.getD k37 []).length) <|
 ck (InI (x31 + ((t.getD k37 []).getD k28 (0 : Int)))) <|
 some ((x30 + ((t.getD k28 []).getD k37 (0 : Int))), (x31 + ((t.getD k37 []).getD k28 (0 : Int))))
def double_Check_B3 (t : (List (List Int))) (x7 : Int) : Nat → Unit → Option (Ct (Unit) (Int × Int)) := fun k28 _ =>
 (forN (double_Check_B4 t k28) t.length 0 (0, 0)).bind fun (x35, x36) =>
 if x35 ≠ x7 then
  some (.ret (0, 8))
 else
  if x36 ≠ x7 then
   some (.ret (0, 8))
  else
   some (.go ())
def double_Check_F (t : (List (List Int))) : Option (Int × Int) :=
 if 6 < ((t.length : Nat) : Int) then
  some (0, 2)
 else
  (forC (double_Check_B1 t) t.length 0 0).bind fun q => match q with
  | .go x7 =>
   (forC (double_Check_B3 t x7) t.length 0 ()).bind fun q => match q with
   | .go _ =>
    some (x7, 0)
   | .ret x => some x
  | .ret x => some x
def double_Check_P (out : Int × Int) (d : D) (H : List HL) : Prop := d = .tp 2 (nth [.v (.int .i64 out.1), .v (.int .i64 out.2)]) ∧ H = []
theorem double_Check_I (out : Int × Int) : IndepP (double_Check_P out) := IndepP.of (by rintro _ _ ⟨rfl, rfl⟩; exact ⟨inferInstance, inferInstance⟩)
set_option maxRecDepth 100000 in
set_option maxHeartbeats 4000000 in
theorem double_Check_spec (t : (List (List Int))) {out : Int × Int} (H : double_Check_F t = some out) : Does Try.prog 28 [slD t] [] (double_Check_P out) := by
 unfold double_Check_F at H
 refine Does.intro Try.func28 rfl Try.ntmps28 rfl fun w0 I0 => ?_
 refine GoC.seq ?_
 refine GoC.region ?_
 refine GoO.pure (ps_assign rfl rfl) ?_
 refine GoO.pure (ps_assign rfl rfl) ?_
 refine GoO.nil ?_
 refine GoK.code ?_
 refine GoC.seq ?_
 refine GoC.seq ?_
 refine GoC.region ?_
 refine GoO.pure (ps_move rfl rfl) ?_
 refine GoO.pure (ps_len rfl (by constructor) rfl) ?_
 refine GoO.lenLe (n := t.length) (x := .tmp 13) rfl (by constructor) sl_lenLe (fun ml1 => ?_)
 refine GoO.pure (ps_gtr rfl rfl rfl) ?_
 refine GoO.nil ?_
 refine GoK.code ?_
 refine GoC.condD rfl (fun h2 => ?_) (fun h2 => ?_)
 replace H := ite_t h2 H
 refine GoC.seq ?_
 refine GoC.region ?_
 refine GoO.pure (ps_assign rfl rfl) ?_
 refine GoO.pure (ps_assign rfl rfl) ?_
 refine GoO.nil ?_
 refine GoK.code ?_
 obtain rfl := Option.some.inj H
 exact GoC.retL (ds := [.v (.int .i64 0), .v (.int .i64 2)]) Try.results28 (ResL.cons (ResD.tmp rfl) (ResL.cons (ResD.tmp rfl) (ResL.nil))) (Take.nil _) ⟨rfl, rfl⟩
 replace H := ite_f h2 H
 refine GoC.skip ?_
 refine GoK.code ?_
 refine GoC.seq ?_
 refine GoC.region ?_
 refine GoO.pure (ps_assign rfl rfl) ?_
 refine GoO.nil ?_
 refine GoK.code ?_
 refine GoC.seq ?_
 refine GoC.seq ?_
 refine GoC.region ?_
 refine GoO.pure (ps_move rfl rfl) ?_
 refine GoO.pure (ps_len rfl (by constructor) rfl) ?_
 refine GoO.pure (ps_move rfl rfl) ?_
 refine GoO.nil ?_
 refine GoK.code ?_
 have hb := bind_l H; clear H
 obtain ⟨q6, hl24, HK4⟩ := hb
 refine GoC.blockJ [(0, slD t)] [] (fun v h => ∃ (x7 : Int), q6 = .go x7 ∧ v = [(4, .v (.int .i64 x7))] ∧ h = []) ?_ ?_
 refine GoC.loopJ [(0, _), (16, _), (17, _)] [] (fun mQ v h => ∃ (k8 : Nat) (x3 : Int), (k8 + mQ = t.length ∧ forC (double_Check_B1 t) mQ k8 x3 = some q6) ∧ v = [(18, .v (.int .i64 ((k8 : Nat) : Int))), (4, .v (.int .i64 x3))] ∧ h = []) t.length ⟨_, _, ⟨by omega, hl24⟩, rfl, rfl⟩ (EnvD.eq rfl (EnvD.eq rfl (EnvD.eq rfl (EnvD.eq rfl (EnvD.eq rfl (EnvD.nil)))))) (TkD.nil _) ?_
 rintro m9 v h ⟨k8, x3, ⟨hkk8, hF5⟩, rfl, rfl⟩
 refine GoC.seq ?_
 refine GoC.region ?_
 refine GoO.pure (ps_lss rfl rfl rfl) ?_
 refine GoO.nil ?_
 refine GoK.code ?_
 refine GoC.seq ?_
 refine GoC.condD rfl (fun (hk8 : (k8 : Int) < ((t.length : Nat) : Int)) => ?_) (fun (hk8 : ¬ (k8 : Int) < ((t.length : Nat) : Int)) => ?_)
 obtain ⟨m9', rfl⟩ : ∃ x, m9 = x + 1 := ⟨m9 - 1, by omega⟩
 have hb := bind_l hF5; clear hF5
 obtain ⟨qrm9, H, hF5⟩ := hb
 have hnk8 : k8 < t.length := by omega
 have hIk8 : InI ((k8 : Int) + 1) := inI_len hk8 ml1
 refine GoC.skip ?_
 refine GoK.code ?_
 refine GoC.seq ?_
 refine GoC.block ?_
 refine GoC.seq ?_
 refine GoC.region ?_
 refine GoO.pure (ps_move rfl rfl) ?_
 refine GoO.pure (ps_indexAddrRN rfl rfl hnk8 rfl) ?_
 refine GoO.pure (ps_loadR rfl hnk8 rfl rfl) ?_
 refine GoO.pure (ps_assign rfl rfl) ?_
 refine GoO.pure (ps_assign rfl rfl) ?_
 refine GoO.nil ?_
 refine GoK.code ?_
 refine GoC.seq ?_
 refine GoC.seq ?_
 refine GoC.region ?_
 refine GoO.pure (ps_move rfl rfl) ?_
 refine GoO.pure (ps_len rfl (by constructor) rfl) ?_
 refine GoO.lenLe (n := (t.getD k8 []).length) (x := .tmp 23) rfl (by constructor) sl_lenLe (fun ml10 => ?_)
 refine GoO.pure (ps_move rfl rfl) ?_
 refine GoO.pure (ps_len rfl (by constructor) rfl) ?_
 refine GoO.pure (ps_neq rfl rfl rfl) ?_
 refine GoO.nil ?_
 refine GoK.code ?_
 refine GoC.condD rfl (fun h11 => ?_) (fun h11 => ?_)
 replace H := ite_t h11 H
 refine GoC.seq ?_
 refine GoC.region ?_
 refine GoO.pure (ps_assign rfl rfl) ?_
 refine GoO.pure (ps_assign rfl rfl) ?_
 refine GoO.nil ?_
 refine GoK.code ?_
 obtain rfl := Option.some.inj H
 obtain rfl := Option.some.inj hF5
 obtain rfl := Option.some.inj HK4
 exact GoC.retL (ds := [.v (.int .i64 0), .v (.int .i64 3)]) Try.results28 (ResL.cons (ResD.tmp rfl) (ResL.cons (ResD.tmp rfl) (ResL.nil))) (Take.nil _) ⟨rfl, rfl⟩
 replace H := ite_f h11 H
 refine GoC.skip ?_
 refine GoK.code ?_
 refine GoC.seq ?_
 refine GoC.region ?_
 refine GoO.pure (ps_move rfl rfl) ?_
 refine GoO.pure (ps_len rfl (by constructor) rfl) ?_
 refine GoO.pure (ps_move rfl rfl) ?_
 refine GoO.nil ?_
 refine GoK.code ?_
 have hb := bind_l H; clear H
 obtain ⟨q15, hl23, HK13⟩ := hb
 refine GoC.blockJ [(0, slD t), (16, slD t), (17, .v (.int .i64 ((t.length : Nat) : Int))), (18, .v (.int .i64 ((k8 : Nat) : Int)))] [] (fun v h => ∃ (x16 : Int), q15 = .go x16 ∧ v = [(4, .v (.int .i64 x16))] ∧ h = []) ?_ ?_
 refine GoC.loopJ [(0, _), (5, _), (16, _), (17, _), (18, _), (28, _), (29, _)] [] (fun mQ v h => ∃ (k17 : Nat) (x12 : Int), (k17 + mQ = (t.getD k8 []).length ∧ forC (double_Check_B2 t k8) mQ k17 x12 = some q15) ∧ v = [(30, .v (.int .i64 ((k17 : Nat) : Int))), (4, .v (.int .i64 x12))] ∧ h = []) ((t.getD k8 []).length) ⟨_, _, ⟨by omega, hl23⟩, rfl, rfl⟩ (EnvD.eq rfl (EnvD.eq rfl (EnvD.eq rfl (EnvD.eq rfl (EnvD.eq rfl (EnvD.eq rfl (EnvD.eq rfl (EnvD.eq rfl (EnvD.eq rfl (EnvD.nil)))))))))) (TkD.nil _) ?_
 rintro m18 v h ⟨k17, x12, ⟨hkk17, hF14⟩, rfl, rfl⟩
 refine GoC.seq ?_
 refine GoC.region ?_
 refine GoO.pure (ps_lss rfl rfl rfl) ?_
 refine GoO.nil ?_
 refine GoK.code ?_
 refine GoC.seq ?_
 refine GoC.condD rfl (fun (hk17 : (k17 : Int) < (((t.getD k8 []).length : Nat) : Int)) => ?_) (fun (hk17 : ¬ (k17 : Int) < (((t.getD k8 []).length : Nat) : Int)) => ?_)
 obtain ⟨m18', rfl⟩ : ∃ x, m18 = x + 1 := ⟨m18 - 1, by omega⟩
 have hb := bind_l hF14; clear hF14
 obtain ⟨qrm18, H, hF14⟩ := hb
 have hnk17 : k17 < (t.getD k8 []).length := by omega
 have hIk17 : InI ((k17 : Int) + 1) := inI_len hk17 ml10
 refine GoC.skip ?_
 refine GoK.code ?_
 refine GoC.seq ?_
 refine GoC.block ?_
 refine GoC.seq ?_
 refine GoC.region ?_
 refine GoO.pure (ps_indexAddrRN rfl rfl hnk17 rfl) ?_
 refine GoO.pure (ps_loadR rfl hnk17 rfl rfl) ?_
 refine GoO.pure (ps_assign rfl rfl) ?_
 refine GoO.nil ?_
 refine GoK.code ?_
 refine GoC.seq ?_
 refine GoC.seq ?_
 refine GoC.region ?_
 refine GoO.pure (ps_move rfl rfl) ?_
 refine GoO.pure (ps_lss rfl rfl rfl) ?_
 refine GoO.pure (ps_move rfl rfl) ?_
 refine GoO.guardE rfl rfl rfl rfl (fun h19 => ?_) (fun h19 => ?_)
 replace H := ite_f h19 H
 refine GoO.pure (ps_move rfl rfl) ?_
 refine GoO.guardT rfl rfl rfl ?_
 refine GoO.pure (ps_gtr rfl rfl rfl) ?_
 refine GoO.pure (ps_pickF rfl rfl rfl) ?_
 refine GoO.nil ?_
 refine GoK.code ?_
 refine GoC.condD rfl (fun h20 => ?_) (fun h20 => ?_)
 replace H := ite_t h20 H
 refine GoC.seq ?_
 refine GoC.region ?_
 refine GoO.pure (ps_assign rfl rfl) ?_
 refine GoO.pure (ps_assign rfl rfl) ?_
 refine GoO.nil ?_
 refine GoK.code ?_
 obtain rfl := Option.some.inj H
 obtain rfl := Option.some.inj hF14
 obtain rfl := Option.some.inj HK13
 obtain rfl := Option.some.inj hF5
 obtain rfl := Option.some.inj HK4
 exact GoC.retL (ds := [.v (.int .i64 0), .v (.int .i64 1)]) Try.results28 (ResL.cons (ResD.tmp rfl) (ResL.cons (ResD.tmp rfl) (ResL.nil))) (Take.nil _) ⟨rfl, rfl⟩
 replace H := ite_f h20 H
 refine GoC.skip ?_
 refine GoK.code ?_
 refine GoC.seq ?_
 refine GoC.region ?_
 refine GoO.pure (ps_move rfl rfl) ?_
 refine GoO.pure (ps_eql rfl rfl rfl) ?_
 refine GoO.nil ?_
 refine GoK.code ?_
 refine GoC.condD rfl (fun h21 => ?_) (fun h21 => ?_)
 replace H := ite_t h21 H
 refine GoC.region ?_
 refine GoO.pure (ps_move rfl rfl) ?_
 refine GoO.pure (ps_move rfl rfl) ?_
 have c22 := ck_l H; replace H := ck_r H
 refine GoO.pure (ps_add rfl rfl rfl c22) ?_
 refine GoO.pure (ps_assign rfl rfl) ?_
 refine GoO.nil ?_
 refine GoK.blk ?_
 refine GoK.code ?_
 refine GoC.region ?_
 refine GoO.pure (ps_add rfl rfl rfl hIk17) ?_
 refine GoO.pure (ps_move rfl rfl) ?_
 refine GoO.nil ?_
 obtain rfl := Option.some.inj H
 exact GoK.againJ m18' (by omega) ⟨_, _, ⟨by omega, hF14⟩, rfl, rfl⟩ (EnvD.eq rfl (EnvD.eq rfl (EnvD.eq rfl (EnvD.eq rfl (EnvD.eq rfl (EnvD.eq rfl (EnvD.eq rfl (EnvD.eq rfl (EnvD.eq rfl (EnvD.nil)))))))))) (TkD.nil _)
 replace H := ite_f h21 H
 refine GoC.skip ?_
 refine GoK.blk ?_
 refine GoK.code ?_
 refine GoC.region ?_
 refine GoO.pure (ps_add rfl rfl rfl hIk17) ?_
 refine GoO.pure (ps_move rfl rfl) ?_
 refine GoO.nil ?_
 obtain rfl := Option.some.inj H
 exact GoK.againJ m18' (by omega) ⟨_, _, ⟨by omega, hF14⟩, rfl, rfl⟩ (EnvD.eq rfl (EnvD.eq rfl (EnvD.eq rfl (EnvD.eq rfl (EnvD.eq rfl (EnvD.eq rfl (EnvD.eq rfl (EnvD.eq rfl (EnvD.eq rfl (EnvD.nil)))))))))) (TkD.nil _)
 replace H := ite_t h19 H
 refine GoO.guardF rfl rfl rfl rfl ?_
 refine GoO.pure (ps_pickT rfl rfl rfl) ?_
 refine GoO.nil ?_
 refine GoK.code ?_
 refine GoC.condT rfl ?_
 refine GoC.seq ?_
 refine GoC.region ?_
 refine GoO.pure (ps_assign rfl rfl) ?_
 refine GoO.pure (ps_assign rfl rfl) ?_
 refine GoO.nil ?_
 refine GoK.code ?_
 obtain rfl := Option.some.inj H
 obtain rfl := Option.some.inj hF14
 obtain rfl := Option.some.inj HK13
 obtain rfl := Option.some.inj hF5
 obtain rfl := Option.some.inj HK4
 exact GoC.retL (ds := [.v (.int .i64 0), .v (.int .i64 1)]) Try.results28 (ResL.cons (ResD.tmp rfl) (ResL.cons (ResD.tmp rfl) (ResL.nil))) (Take.nil _) ⟨rfl, rfl⟩
 obtain rfl : m18 = 0 := by omega
 refine GoC.exit rfl ?_
 cases hF14
 exact GoK.meet ⟨_, rfl, rfl, rfl⟩ (EnvD.eq rfl (EnvD.eq rfl (EnvD.eq rfl (EnvD.eq rfl (EnvD.eq rfl (EnvD.nil)))))) (TkD.nil _)
 rintro v h ⟨x16, rfl, rfl, rfl⟩
 have H := HK13; clear HK13
 refine GoK.blk ?_
 refine GoK.code ?_
 refine GoC.region ?_
 refine GoO.pure (ps_add rfl rfl rfl hIk8) ?_
 refine GoO.pure (ps_move rfl rfl) ?_
 refine GoO.nil ?_
 obtain rfl := Option.some.inj H
 exact GoK.againJ m9' (by omega) ⟨_, _, ⟨by omega, hF5⟩, rfl, rfl⟩ (EnvD.eq rfl (EnvD.eq rfl (EnvD.eq rfl (EnvD.eq rfl (EnvD.eq rfl (EnvD.nil)))))) (TkD.nil _)
 obtain rfl : m9 = 0 := by omega
 refine GoC.exit rfl ?_
 cases hF5
 exact GoK.meet ⟨_, rfl, rfl, rfl⟩ (EnvD.eq rfl (EnvD.eq rfl (EnvD.nil))) (TkD.nil _)
 rintro v h ⟨x7, rfl, rfl, rfl⟩
 have H := HK4; clear HK4
 refine GoK.code ?_
 refine GoC.seq ?_
 refine GoC.seq ?_
 refine GoC.region ?_
 refine GoO.pure (ps_move rfl rfl) ?_
 refine GoO.pure (ps_len rfl (by constructor) rfl) ?_
 refine GoO.pure (ps_move rfl rfl) ?_
 refine GoO.nil ?_
 refine GoK.code ?_
 have hb := bind_l H; clear H
 obtain ⟨q27, hl46, HK25⟩ := hb
 refine GoC.blockJ [(4, .v (.int .i64 x7))] [] (fun v h => q27 = .go () ∧ v = [] ∧ h = []) ?_ ?_
 refine GoC.loopJ [(0, _), (4, _), (48, _)] [] (fun mQ v h => ∃ (k28 : Nat), (k28 + mQ = t.length ∧ forC (double_Check_B3 t x7) mQ k28 () = some q27) ∧ v = [(49, .v (.int .i64 ((k28 : Nat) : Int)))] ∧ h = []) t.length ⟨_, ⟨by omega, hl46⟩, rfl, rfl⟩ (EnvD.eq rfl (EnvD.eq rfl (EnvD.eq rfl (EnvD.eq rfl (EnvD.nil))))) (TkD.nil _) ?_
 rintro m29 v h ⟨k28, ⟨hkk28, hF26⟩, rfl, rfl⟩
 refine GoC.seq ?_
 refine GoC.region ?_
 refine GoO.pure (ps_lss rfl rfl rfl) ?_
 refine GoO.nil ?_
 refine GoK.code ?_
 refine GoC.seq ?_
 refine GoC.condD rfl (fun (hk28 : (k28 : Int) < ((t.length : Nat) : Int)) => ?_) (fun (hk28 : ¬ (k28 : Int) < ((t.length : Nat) : Int)) => ?_)
 obtain ⟨m29', rfl⟩ : ∃ x, m29 = x + 1 := ⟨m29 - 1, by omega⟩
 have hb := bind_l hF26; clear hF26
 obtain ⟨qrm29, H, hF26⟩ := hb
 have hnk28 : k28 < t.length := by omega
 have hIk28 : InI ((k28 : Int) + 1) := inI_len hk28 ml1
 refine GoC.skip ?_
 refine GoK.code ?_
 refine GoC.seq ?_
 refine GoC.block ?_
 refine GoC.seq ?_
 refine GoC.region ?_
 refine GoO.pure (ps_move rfl rfl) ?_
 refine GoO.pure (ps_assign rfl rfl) ?_
 refine GoO.nil ?_
 refine GoK.code ?_
 refine GoC.seq ?_
 refine GoC.region ?_
 refine GoO.pure (ps_assign rfl rfl) ?_
 refine GoO.pure (ps_assign rfl rfl) ?_
 refine GoO.nil ?_
 refine GoK.code ?_
 refine GoC.seq ?_
 refine GoC.seq ?_
 refine GoC.region ?_
 refine GoO.pure (ps_move rfl rfl) ?_
 refine GoO.pure (ps_len rfl (by constructor) rfl) ?_
 refine GoO.pure (ps_move rfl rfl) ?_
 refine GoO.nil ?_
 refine GoK.code ?_
 have hb := bind_l H; clear H
 obtain ⟨⟨x35, x36⟩, hl43, HK32⟩ := hb
 refine GoC.blockJ [(0, slD t), (4, .v (.int .i64 x7)), (48, .v (.int .i64 ((t.length : Nat) : Int))), (49, .v (.int .i64 ((k28 : Nat) : Int)))] [] (fun v h => v = [(10, .v (.int .i64 x35)), (11, .v (.int .i64 x36))] ∧ h = []) ?_ ?_
 refine GoC.loopJ [(0, _), (4, _), (9, _), (48, _), (49, _), (53, _)] [] (fun mQ v h => ∃ (k37 : Nat) (x30 : Int) (x31 : Int), (k37 + mQ = t.length ∧ forN (double_Check_B4 t k28) mQ k37 (x30, x31) = some (x35, x36)) ∧ v = [(54, .v (.int .i64 ((k37 : Nat) : Int))), (10, .v (.int .i64 x30)), (11, .v (.int .i64 x31))] ∧ h = []) t.length ⟨_, _, _, ⟨by omega, hl43⟩, rfl, rfl⟩ (EnvD.eq rfl (EnvD.eq rfl (EnvD.eq rfl (EnvD.eq rfl (EnvD.eq rfl (EnvD.eq rfl (EnvD.eq rfl (EnvD.eq rfl (EnvD.eq rfl (EnvD.nil)))))))))) (TkD.nil _) ?_
 rintro m38 v h ⟨k37, x30, x31, ⟨hkk37, hF33⟩, rfl, rfl⟩
 refine GoC.seq ?_
 refine GoC.region ?_
 refine GoO.pure (ps_lss rfl rfl rfl) ?_
 refine GoO.nil ?_
 refine GoK.code ?_
 refine GoC.seq ?_
 refine GoC.condD rfl (fun (hk37 : (k37 : Int) < ((t.length : Nat) : Int)) => ?_) (fun (hk37 : ¬ (k37 : Int) < ((t.length : Nat) : Int)) => ?_)
 obtain ⟨m38', rfl⟩ : ∃ x, m38 = x + 1 := ⟨m38 - 1, by omega⟩
 have hb := bind_l hF33; clear hF33
 obtain ⟨qrm38, H, hF33⟩ := hb
 have hnk37 : k37 < t.length := by omega
 have hIk37 : InI ((k37 : Int) + 1) := inI_len hk37 ml1
 refine GoC.skip ?_
 refine GoK.code ?_
 refine GoC.seq ?_
 refine GoC.block ?_
 refine GoC.seq ?_
 refine GoC.region ?_
 refine GoO.pure (ps_move rfl rfl) ?_
 refine GoO.pure (ps_assign rfl rfl) ?_
 refine GoO.nil ?_
 refine GoK.code ?_
 refine GoC.seq ?_
 refine GoC.region ?_
 refine GoO.pure (ps_move rfl rfl) ?_
 refine GoO.pure (ps_move rfl rfl) ?_
 refine GoO.pure (ps_move rfl rfl) ?_
 refine GoO.pure (ps_indexAddrRN rfl rfl hnk28 rfl) ?_
 refine GoO.pure (ps_loadR rfl hnk28 rfl rfl) ?_
 refine GoO.pure (ps_move rfl rfl) ?_
 have c39 := ck_l H; replace H := ck_r H
 refine GoO.pure (ps_indexAddrRN rfl rfl c39 rfl) ?_
 refine GoO.pure (ps_loadR rfl c39 rfl rfl) ?_
 have c40 := ck_l H; replace H := ck_r H
 refine GoO.pure (ps_add rfl rfl rfl c40) ?_
 refine GoO.pure (ps_assign rfl rfl) ?_
 refine GoO.nil ?_
 refine GoK.code ?_
 refine GoC.region ?_
 refine GoO.pure (ps_move rfl rfl) ?_
 refine GoO.pure (ps_move rfl rfl) ?_
 refine GoO.pure (ps_move rfl rfl) ?_
 refine GoO.pure (ps_indexAddrRN rfl rfl hnk37 rfl) ?_
 refine GoO.pure (ps_loadR rfl hnk37 rfl rfl) ?_
 refine GoO.pure (ps_move rfl rfl) ?_
 have c41 := ck_l H; replace H := ck_r H
 refine GoO.pure (ps_indexAddrRN rfl rfl c41 rfl) ?_
 refine GoO.pure (ps_loadR rfl c41 rfl rfl) ?_
 have c42 := ck_l H; replace H := ck_r H
 refine GoO.pure (ps_add rfl rfl rfl c42) ?_
 refine GoO.pure (ps_assign rfl rfl) ?_
 refine GoO.nil ?_
 refine GoK.blk ?_
 refine GoK.code ?_
 refine GoC.region ?_
 refine GoO.pure (ps_add rfl rfl rfl hIk37) ?_
 refine GoO.pure (ps_move rfl rfl) ?_
 refine GoO.nil ?_
 obtain rfl := Option.some.inj H
 exact GoK.againJ m38' (by omega) ⟨_, _, _, ⟨by omega, hF33⟩, rfl, rfl⟩ (EnvD.eq rfl (EnvD.eq rfl (EnvD.eq rfl (EnvD.eq rfl (EnvD.eq rfl (EnvD.eq rfl (EnvD.eq rfl (EnvD.eq rfl (EnvD.eq rfl (EnvD.nil)))))))))) (TkD.nil _)
 obtain rfl : m38 = 0 := by omega
 refine GoC.exit rfl ?_
 cases hF33
 exact GoK.meet ⟨rfl, rfl⟩ (EnvD.eq rfl (EnvD.eq rfl (EnvD.eq rfl (EnvD.eq rfl (EnvD.eq rfl (EnvD.eq rfl (EnvD.nil))))))) (TkD.nil _)
 rintro v h ⟨rfl, rfl⟩
 have H := HK32; clear HK32
 refine GoK.code ?_
 refine GoC.seq ?_
 refine GoC.region ?_
 refine GoO.pure (ps_move rfl rfl) ?_
 refine GoO.pure (ps_move rfl rfl) ?_
 refine GoO.pure (ps_neq rfl rfl rfl) ?_
 refine GoO.pure (ps_move rfl rfl) ?_
 refine GoO.guardE rfl rfl rfl rfl (fun h44 => ?_) (fun h44 => ?_)
 replace H := ite_f h44 H
 refine GoO.pure (ps_move rfl rfl) ?_
 refine GoO.guardT rfl rfl rfl ?_
 refine GoO.pure (ps_move rfl rfl) ?_
 refine GoO.guardT rfl rfl rfl ?_
 refine GoO.pure (ps_neq rfl rfl rfl) ?_
 refine GoO.pure (ps_pickF rfl rfl rfl) ?_
 refine GoO.nil ?_
 refine GoK.code ?_
 refine GoC.condD rfl (fun h45 => ?_) (fun h45 => ?_)
 replace H := ite_t h45 H
 refine GoC.seq ?_
 refine GoC.region ?_
 refine GoO.pure (ps_assign rfl rfl) ?_
 refine GoO.pure (ps_assign rfl rfl) ?_
 refine GoO.nil ?_
 refine GoK.code ?_
 obtain rfl := Option.some.inj H
 obtain rfl := Option.some.inj hF26
 obtain rfl := Option.some.inj HK25
 exact GoC.retL (ds := [.v (.int .i64 0), .v (.int .i64 8)]) Try.results28 (ResL.cons (ResD.tmp rfl) (ResL.cons (ResD.tmp rfl) (ResL.nil))) (Take.nil _) ⟨rfl, rfl⟩
 replace H := ite_f h45 H
 refine GoC.skip ?_
 refine GoK.blk ?_
 refine GoK.code ?_
 refine GoC.region ?_
 refine GoO.pure (ps_add rfl rfl rfl hIk28) ?_
 refine GoO.pure (ps_move rfl rfl) ?_
 refine GoO.nil ?_
 obtain rfl := Option.some.inj H
 exact GoK.againJ m29' (by omega) ⟨_, ⟨by omega, hF26⟩, rfl, rfl⟩ (EnvD.eq rfl (EnvD.eq rfl (EnvD.eq rfl (EnvD.eq rfl (EnvD.nil))))) (TkD.nil _)
 replace H := ite_t h44 H
 refine GoO.guardF rfl rfl rfl rfl ?_
 refine GoO.guardF rfl rfl rfl rfl ?_
 refine GoO.pure (ps_pickT rfl rfl rfl) ?_
 refine GoO.nil ?_
 refine GoK.code ?_
 refine GoC.condT rfl ?_
 refine GoC.seq ?_
 refine GoC.region ?_
 refine GoO.pure (ps_assign rfl rfl) ?_
 refine GoO.pure (ps_assign rfl rfl) ?_
 refine GoO.nil ?_
 refine GoK.code ?_
 obtain rfl := Option.some.inj H
 obtain rfl := Option.some.inj hF26
 obtain rfl := Option.some.inj HK25
 exact GoC.retL (ds := [.v (.int .i64 0), .v (.int .i64 8)]) Try.results28 (ResL.cons (ResD.tmp rfl) (ResL.cons (ResD.tmp rfl) (ResL.nil))) (Take.nil _) ⟨rfl, rfl⟩
 obtain rfl : m29 = 0 := by omega
 refine GoC.exit rfl ?_
 cases hF26
 exact GoK.meet ⟨rfl, rfl, rfl⟩ (EnvD.eq rfl (EnvD.nil)) (TkD.nil _)
 rintro v h ⟨rfl, rfl, rfl⟩
 have H := HK25; clear HK25
 refine GoK.code ?_
 refine GoC.seq ?_
 refine GoC.region ?_
 refine GoO.pure (ps_move rfl rfl) ?_
 refine GoO.pure (ps_assign rfl rfl) ?_
 refine GoO.pure (ps_assign rfl rfl) ?_
 refine GoO.nil ?_
 refine GoK.code ?_
 obtain rfl := Option.some.inj H
 exact GoC.retL (ds := [.v (.int .i64 x7), .v (.int .i64 0)]) Try.results28 (ResL.cons (ResD.tmp rfl) (ResL.cons (ResD.tmp rfl) (ResL.nil))) (Take.nil _) ⟨rfl, rfl⟩

def double_first_B1 (rec : ((List (List Int)) → Int → (List Int) → Option ((List Int)))) (t : (List (List Int))) (row_ : Int) (used : (List Int)) : Nat → Unit → Option (Ct (Unit) ((List Int))) := fun k12 _ =>
 if 0 < ((t.getD row_.toNat []).getD k12 (0 : Int)) then
  (slices_Contains_int_F used ((k12 : Nat) : Int)).bind fun r15 =>
  if (!r15) = true then
   ck (InI (row_ + 1)) <|
   (slices_Clone_int_F used).bind fun r19 =>
   ck (r19.length + 1 ≤ 17592186044416) <|
   (rec t (row_ + 1) (r19 ++ ([((k12 : Nat) : Int)] : List Int))).bind fun r25 =>
   if 0 < r25.length then
    some (.ret r25)
   else
    some (.go ())
  else
   some (.go ())
 else
  some (.go ())
def double_first_S (rec : (List (List Int)) → Int → (List Int) → Option ((List Int))) (t : (List (List Int))) (row_ : Int) (used : (List Int)) : Option ((List Int)) :=
 if row_ = ((t.length : Nat) : Int) then
  (slices_Clone_int_F used).bind fun r3 =>
  ck (0 < r3.length) <|
  some r3
 else
  ck (0 ≤ row_ ∧ row_ < ((t.length : Nat) : Int)) <|
  (forC (double_first_B1 rec t row_ used) ((t.getD row_.toNat []).length) 0 ()).bind fun q => match q with
  | .go _ =>
   some []
  | .ret x => some x
def double_first_F : Nat → (List (List Int)) → Int → (List Int) → Option ((List Int))
 | 0 => fun _ _ _ => none
 | fuel + 1 => double_first_S (double_first_F fuel)
def double_first_P (out : (List Int)) (d : D) (H : List HL) : Prop := ∃ β1 : BK, d = nilD β1 1 out.length ∧ H = [.one β1 3 1 (row out)]
theorem double_first_I (out : (List Int)) : IndepP (double_first_P out) := IndepP.of (by rintro _ _ ⟨β1, rfl, rfl⟩; exact ⟨inferInstance, inferInstance⟩)
set_option maxRecDepth 100000 in
set_option maxHeartbeats 4000000 in
theorem double_first_spec : ∀ (fuel : Nat) (t : (List (List Int))) (row_ : Int) (used : (List Int)) {out : (List Int)} (H : double_first_F fuel t row_ used = some out), Does Try.prog 64 [slD t, .v (.int .i64 row_), slD used] [] (double_first_P out) := by
 intro fuel
 induction fuel with
 | zero => intro t row_ used out H; cases H
 | succ fuel ih =>
 intro t row_ used out H
 replace H : double_first_S (double_first_F fuel) t row_ used = some out := H
 generalize double_first_F fuel = rec at ih H
 unfold double_first_S at H
 refine Does.intro Try.func64 rfl Try.ntmps64 rfl fun w0 I0 => ?_
 refine GoC.seq ?_
 refine GoC.region ?_
 refine GoO.pure (ps_assign rfl rfl) ?_
 refine GoO.nil ?_
 refine GoK.code ?_
 refine GoC.seq ?_
 refine GoC.seq ?_
 refine GoC.region ?_
 refine GoO.pure (ps_move rfl rfl) ?_
 refine GoO.pure (ps_move rfl rfl) ?_
 refine GoO.pure (ps_len rfl (by constructor) rfl) ?_
 refine GoO.lenLe (n := t.length) (x := .tmp 11) rfl (by constructor) sl_lenLe (fun ml1 => ?_)
 refine GoO.pure (ps_eql rfl rfl rfl) ?_
 refine GoO.nil ?_
 refine GoK.code ?_
 refine GoC.condD rfl (fun h2 => ?_) (fun h2 => ?_)
 replace H := ite_t h2 H
 refine GoC.seq ?_
 refine GoC.region ?_
 refine GoO.pure (ps_move rfl rfl) ?_
 have hb := bind_l H; clear H
 obtain ⟨r3, e5, H⟩ := hb
 refine GoO.effC (ef_call rfl (Take.nil _) (Take.nil _) (slices_Clone_int_spec used e5) (LendL.cons (Lend.refl _ _) (LendL.nil)) rfl (slices_Clone_int_I (r3))) (fun rr HH hp => ?_)
 obtain ⟨β4, rfl, rfl⟩ := hp
 refine GoO.pure (ps_assign rfl rfl) ?_
 refine GoO.nil ?_
 refine GoK.code ?_
 have c6 := ck_l H; replace H := ck_r H
 obtain rfl := Option.some.inj H
 exact GoC.retL (ds := [nilD β4 1 r3.length]) Try.results64 (ResL.cons (ResD.le (ResD.tmp rfl) (by exact DLe.toNil c6 (by first | rfl | omega | (simp only [row_len, gridC_len, rowO_len] <;> first | rfl | omega)))) (ResL.nil)) (Take.cons _ _ _ _ _ Rem.p0 (Take.nil _)) ⟨β4, rfl, rfl⟩
 replace H := ite_f h2 H
 refine GoC.skip ?_
 refine GoK.code ?_
 refine GoC.seq ?_
 refine GoC.seq ?_
 refine GoC.region ?_
 refine GoO.pure (ps_move rfl rfl) ?_
 refine GoO.pure (ps_move rfl rfl) ?_
 have c7 := ck_l H; replace H := ck_r H
 refine GoO.pure (ps_indexAddrR rfl rfl c7 rfl) ?_
 refine GoO.pure (ps_loadR rfl (idx_lt c7) rfl rfl) ?_
 refine GoO.pure (ps_len rfl (by constructor) rfl) ?_
 refine GoO.lenLe (n := (t.getD row_.toNat []).length) (x := .tmp 19) rfl (by constructor) sl_lenLe (fun ml8 => ?_)
 refine GoO.pure (ps_move rfl rfl) ?_
 refine GoO.nil ?_
 refine GoK.code ?_
 have hb := bind_l H; clear H
 obtain ⟨q11, hl29, HK9⟩ := hb
 refine GoC.blockJ [] [] (fun v h => q11 = .go () ∧ v = [] ∧ h = []) ?_ ?_
 refine GoC.loopJ [(0, _), (1, _), (2, _), (19, _), (20, _)] [] (fun mQ v h => ∃ (k12 : Nat), (k12 + mQ = (t.getD row_.toNat []).length ∧ forC (double_first_B1 rec t row_ used) mQ k12 () = some q11) ∧ v = [(21, .v (.int .i64 ((k12 : Nat) : Int)))] ∧ h = []) ((t.getD row_.toNat []).length) ⟨_, ⟨by omega, hl29⟩, rfl, rfl⟩ (EnvD.eq rfl (EnvD.eq rfl (EnvD.eq rfl (EnvD.eq rfl (EnvD.eq rfl (EnvD.eq rfl (EnvD.nil))))))) (TkD.nil _) ?_
 rintro m13 v h ⟨k12, ⟨hkk12, hF10⟩, rfl, rfl⟩
 refine GoC.seq ?_
 refine GoC.region ?_
 refine GoO.pure (ps_lss rfl rfl rfl) ?_
 refine GoO.nil ?_
 refine GoK.code ?_
 refine GoC.seq ?_
 refine GoC.condD rfl (fun (hk12 : (k12 : Int) < (((t.getD row_.toNat []).length : Nat) : Int)) => ?_) (fun (hk12 : ¬ (k12 : Int) < (((t.getD row_.toNat []).length : Nat) : Int)) => ?_)
 obtain ⟨m13', rfl⟩ : ∃ x, m13 = x + 1 := ⟨m13 - 1, by omega⟩
 have hb := bind_l hF10; clear hF10
 obtain ⟨qrm13, H, hF10⟩ := hb
 have hnk12 : k12 < (t.getD row_.toNat []).length := by omega
 have hIk12 : InI ((k12 : Int) + 1) := inI_len hk12 ml8
 refine GoC.skip ?_
 refine GoK.code ?_
 refine GoC.seq ?_
 refine GoC.block ?_
 refine GoC.seq ?_
 refine GoC.region ?_
 refine GoO.pure (ps_move rfl rfl) ?_
 refine GoO.pure (ps_indexAddrRN rfl rfl hnk12 rfl) ?_
 refine GoO.pure (ps_loadR rfl hnk12 rfl rfl) ?_
 refine GoO.pure (ps_assign rfl rfl) ?_
 refine GoO.pure (ps_assign rfl rfl) ?_
 refine GoO.nil ?_
 refine GoK.code ?_
 refine GoC.seq ?_
 refine GoC.region ?_
 refine GoO.pure (ps_move rfl rfl) ?_
 refine GoO.pure (ps_gtr rfl rfl rfl) ?_
 refine GoO.pure (ps_move rfl rfl) ?_
 refine GoO.guardD rfl rfl rfl rfl (fun h14 => ?_) (fun h14 => ?_)
 replace H := ite_t h14 H
 refine GoO.pure (ps_move rfl rfl) ?_
 refine GoO.guardT rfl rfl rfl ?_
 refine GoO.pure (ps_move rfl rfl) ?_
 refine GoO.guardT rfl rfl rfl ?_
 have hb := bind_l H; clear H
 obtain ⟨r15, e16, H⟩ := hb
 refine GoO.effC (ef_call rfl (Take.nil _) (Take.nil _) (slices_Contains_int_spec used ((k12 : Nat) : Int) e16) (LendL.cons (Lend.refl _ _) (LendL.cons (Lend.refl _ _) (LendL.nil))) rfl (slices_Contains_int_I (r15))) (fun rr HH hp => ?_)
 obtain ⟨rfl, rfl⟩ := hp
 refine GoO.guardT rfl rfl rfl ?_
 refine GoO.pure (ps_not rfl rfl) ?_
 refine GoO.pure (ps_pickT rfl rfl rfl) ?_
 refine GoO.nil ?_
 refine GoK.code ?_
 refine GoC.cond rfl (fun h17 => ?_) (fun h17 => ?_)
 replace H := itb_t h17 H
 refine GoC.seq ?_
 refine GoC.region ?_
 refine GoO.pure (ps_move rfl rfl) ?_
 refine GoO.pure (ps_move rfl rfl) ?_
 have c18 := ck_l H; replace H := ck_r H
 refine GoO.pure (ps_add rfl rfl rfl c18) ?_
 refine GoO.pure (ps_move rfl rfl) ?_
 have hb := bind_l H; clear H
 obtain ⟨r19, e21, H⟩ := hb
 refine GoO.effC (ef_call rfl (Take.nil _) (Take.nil _) (slices_Clone_int_spec used e21) (LendL.cons (Lend.refl _ _) (LendL.nil)) rfl (slices_Clone_int_I (r19))) (fun rr HH hp => ?_)
 obtain ⟨β20, rfl, rfl⟩ := hp
 refine GoO.pure (ps_move rfl rfl) ?_
 refine GoO.effB (ef_buildSlice (row ([((k12 : Nat) : Int)] : List Int)) rfl (Parts.cons _ _ _ _ _ _ _ _ ⟨rfl, rfl⟩ (Part.one _ rfl rfl) rfl rfl (Parts.nil _)) rfl rfl rfl rfl) (fun β22 => ?_)
 have c24 := ck_l H; replace H := ck_r H
 refine GoO.effB (ef_append rfl rfl Rem.p1 (Src.own At.p0 (by first | omega | (simp only [subl_length, cpl_length, List.length_set, List.length_append, List.length_cons, List.length_nil, List.length_replicate, row_len]; omega) | (simp only [subl_length, cpl_length, List.length_set, List.length_append, List.length_cons, List.length_nil, List.length_replicate, row_len]; done))) (cat_row (α := Int) (by first | rfl | omega | (simp only [subl_length, cpl_length, List.length_set, List.length_append, List.length_cons, List.length_nil, List.length_replicate, row_len] <;> first | rfl | omega)) (by first | rfl | omega | (simp only [subl_length, cpl_length, List.length_set, List.length_append, List.length_cons, List.length_nil, List.length_replicate, row_len] <;> first | rfl | omega)) (fun _ _ _ _ => rfl)) (by first | omega | (simp only [subl_length, cpl_length, List.length_set, List.length_append, List.length_cons, List.length_nil, List.length_replicate, row_len]; omega) | (simp only [subl_length, cpl_length, List.length_set, List.length_append, List.length_cons, List.length_nil, List.length_replicate, row_len]; done)) (app_le c24 rfl) rfl rfl rfl) (fun β23 => ?_)
 have hb := bind_l H; clear H
 obtain ⟨r25, e27, H⟩ := hb
 refine GoO.effC (ef_call rfl (Take.nil _) (Take.cons _ _ _ _ _ Rem.p0 (Take.nil _)) (ih t (row_ + 1) (r19 ++ ([((k12 : Nat) : Int)] : List Int)) e27) (LendL.cons (Lend.refl _ _) (LendL.cons (Lend.refl _ _) (LendL.cons (Lend.all' At.p0 (by first | rfl | omega | (simp only [subl_length, cpl_length, List.length_set, List.length_append, List.length_cons, List.length_nil, List.length_replicate, row_len] <;> first | rfl | omega)) rfl) (LendL.nil)))) rfl (double_first_I (r25))) (fun rr HH hp => ?_)
 obtain ⟨β26, rfl, rfl⟩ := hp
 refine GoO.pure (ps_assign rfl rfl) ?_
 refine GoO.nil ?_
 refine GoK.code ?_
 refine GoC.seq ?_
 refine GoC.region ?_
 refine GoO.pure (ps_move rfl rfl) ?_
 refine GoO.pure (ps_neqNilD rfl rfl rfl) ?_
 refine GoO.nil ?_
 refine GoK.code ?_
 refine GoC.condD rfl (fun h28 => ?_) (fun h28 => ?_)
 replace H := ite_t h28 H
 refine GoC.seq ?_
 refine GoC.region ?_
 refine GoO.pure (ps_move rfl rfl) ?_
 refine GoO.pure (ps_assign rfl rfl) ?_
 refine GoO.nil ?_
 refine GoK.code ?_
 obtain rfl := Option.some.inj H
 obtain rfl := Option.some.inj hF10
 obtain rfl := Option.some.inj HK9
 exact GoC.retL (ds := [nilD β26 1 r25.length]) Try.results64 (ResL.cons (ResD.tmp rfl) (ResL.nil)) (Take.cons _ _ _ _ _ Rem.p0 (Take.nil _)) ⟨β26, rfl, rfl⟩
 replace H := ite_f h28 H
 refine GoC.skip ?_
 refine GoK.blk ?_
 refine GoK.code ?_
 refine GoC.region ?_
 refine GoO.pure (ps_add rfl rfl rfl hIk12) ?_
 refine GoO.pure (ps_move rfl rfl) ?_
 refine GoO.nil ?_
 obtain rfl := Option.some.inj H
 exact GoK.againJ m13' (by omega) ⟨_, ⟨by omega, hF10⟩, rfl, rfl⟩ (EnvD.eq rfl (EnvD.eq rfl (EnvD.eq rfl (EnvD.eq rfl (EnvD.eq rfl (EnvD.eq rfl (EnvD.nil))))))) (TkD.nil _)
 replace H := itb_f h17 H
 refine GoC.skip ?_
 refine GoK.blk ?_
 refine GoK.code ?_
 refine GoC.region ?_
 refine GoO.pure (ps_add rfl rfl rfl hIk12) ?_
 refine GoO.pure (ps_move rfl rfl) ?_
 refine GoO.nil ?_
 obtain rfl := Option.some.inj H
 exact GoK.againJ m13' (by omega) ⟨_, ⟨by omega, hF10⟩, rfl, rfl⟩ (EnvD.eq rfl (EnvD.eq rfl (EnvD.eq rfl (EnvD.eq rfl (EnvD.eq rfl (EnvD.eq rfl (EnvD.nil))))))) (TkD.nil _)
 replace H := ite_f h14 H
 refine GoO.guardF rfl rfl rfl rfl ?_
 refine GoO.guardF rfl rfl rfl rfl ?_
 refine GoO.guardF rfl rfl rfl rfl ?_
 refine GoO.pure (ps_pickF rfl rfl rfl) ?_
 refine GoO.nil ?_
 refine GoK.code ?_
 refine GoC.condF rfl ?_
 refine GoC.skip ?_
 refine GoK.blk ?_
 refine GoK.code ?_
 refine GoC.region ?_
 refine GoO.pure (ps_add rfl rfl rfl hIk12) ?_
 refine GoO.pure (ps_move rfl rfl) ?_
 refine GoO.nil ?_
 obtain rfl := Option.some.inj H
 exact GoK.againJ m13' (by omega) ⟨_, ⟨by omega, hF10⟩, rfl, rfl⟩ (EnvD.eq rfl (EnvD.eq rfl (EnvD.eq rfl (EnvD.eq rfl (EnvD.eq rfl (EnvD.eq rfl (EnvD.nil))))))) (TkD.nil _)
 obtain rfl : m13 = 0 := by omega
 refine GoC.exit rfl ?_
 cases hF10
 exact GoK.meet ⟨rfl, rfl, rfl⟩ (EnvD.nil) (TkD.nil _)
 rintro v h ⟨rfl, rfl, rfl⟩
 have H := HK9; clear HK9
 refine GoK.code ?_
 refine GoC.seq ?_
 refine GoC.region ?_
 refine GoO.pure (ps_assign rfl rfl) ?_
 refine GoO.nil ?_
 refine GoK.code ?_
 obtain rfl := Option.some.inj H
 refine GoC.le (le_row0 3 1 (row ([] : List Int)) rfl) ?_
 exact GoC.retL (ds := [nilD ⟨0, 0, 0⟩ 1 0]) Try.results64 (ResL.cons (ResD.tmp rfl) (ResL.nil)) (Take.cons _ _ _ _ _ Rem.p0 (Take.nil _)) ⟨⟨0, 0, 0⟩, rfl, rfl⟩

def double_Split_B1 (t : (List (List Int))) : Nat → (List (List Int)) → Option ((List (List Int))) := fun k14 g8 =>
 (slices_Clone_int_F (t.getD k14 [])).bind fun r16 =>
 ck (k14 < g8.length) <|
 some (g8.set k14 r16)
def double_Split_B3 (g22 : (List (List Int))) (r34 : (List Int)) : Nat → Int → Option (Int) := fun k44 x39 =>
 ck (k44 < g22.length) <|
 ck (0 ≤ (r34.getD k44 (0 : Int)) ∧ (r34.getD k44 (0 : Int)) < (((g22.getD k44 []).length : Nat) : Int)) <|
 some (min x39 ((g22.getD k44 []).getD ((r34.getD k44 (0 : Int)).toNat) (0 : Int)))
def double_Split_B4 (r34 : (List Int)) (x43 : Int) : Nat → (List (List Int)) → Option ((List (List Int))) := fun k55 g49 =>
 ck (k55 < g49.length) <|
 ck (0 ≤ (r34.getD k55 (0 : Int)) ∧ (r34.getD k55 (0 : Int)) < (((g49.getD k55 []).length : Nat) : Int)) <|
 ck (InI (((g49.getD k55 []).getD ((r34.getD k55 (0 : Int)).toNat) (0 : Int)) - x43)) <|
 some (g49.set k55 ((g49.getD k55 []).set ((r34.getD k55 (0 : Int)).toNat) (((g49.getD k55 []).getD ((r34.getD k55 (0 : Int)).toNat) (0 : Int)) - x43)))
def double_Split_B2 : (Int × (List (List Int)) × (List Piece)) → Option (Ct (Int × (List (List Int)) × (List Piece)) ((List Piece) × Int)) := fun (x21, g22, l25) =>
 if 0 < x21 then
  (double_first_F 100 g22 0 []).bind fun r34 =>
  (forN (double_Split_B3 g22 r34) r34.length 0 x21).bind fun x43 =>
  (forN (double_Split_B4 r34 x43) r34.length 0 g22).bind fun g54 =>
  ck (InI (x21 - x43)) <|
  ck (l25.length + 1 ≤ 4398046511104) <|
  some (.go ((x21 - x43), g54, (l25 ++ ([(⟨x43, r34⟩ : Piece)] : List Piece))))
 else
  some (.brk (x21, g22, l25))
def double_Split_F (t : (List (List Int))) : Option ((List Piece) × Int) :=
 (double_Check_F t).bind fun (r1, r2) =>
 if r2 ≠ 0 then
  some ([], r2)
 else
  ck (0 ≤ ((t.length : Nat) : Int) ∧ ((t.length : Nat) : Int) ≤ 10000000000) <|
  (forN (double_Split_B1 t) t.length 0 (List.replicate (((t.length : Nat) : Int).toNat) ([] : List Int))).bind fun g13 =>
  (loopC (double_Split_B2) 1000000 (r1, g13, [])).bind fun q => match q with
  | .go (x29, g30, l31) =>
   some (l31, 0)
  | .ret x => some x
def double_Split_P (out : (List Piece) × Int) (d : D) (H : List HL) : Prop := ∃ β1 : BK, d = .tp 2 (nth [.own β1 2 0 out.1.length, .v (.int .i64 out.2)]) ∧ H = [.one β1 77 2 (row out.1)]
set_option maxRecDepth 100000 in
set_option maxHeartbeats 4000000 in
theorem double_Split_spec (t : (List (List Int))) {out : (List Piece) × Int} (H : double_Split_F t = some out) : Does Try.prog 46 [slD t] [] (double_Split_P out) := by
 unfold double_Split_F at H
 refine Does.intro Try.func46 rfl Try.ntmps46 rfl fun w0 I0 => ?_
 refine GoC.seq ?_
 refine GoC.region ?_
 refine GoO.pure (ps_assign rfl rfl) ?_
 refine GoO.pure (ps_assign rfl rfl) ?_
 refine GoO.nil ?_
 refine GoK.code ?_
 refine GoC.seq ?_
 refine GoC.region ?_
 refine GoO.pure (ps_move rfl rfl) ?_
 have hb := bind_l H; clear H
 obtain ⟨⟨r1, r2⟩, e3, H⟩ := hb
 refine GoO.effC (ef_call rfl (Take.nil _) (Take.nil _) (double_Check_spec t e3) (LendL.cons (Lend.refl _ _) (LendL.nil)) rfl (double_Check_I (r1, r2))) (fun rr HH hp => ?_)
 obtain ⟨rfl, rfl⟩ := hp
 refine GoO.pure (ps_move rfl rfl) ?_
 refine GoO.pure (ps_extract rfl rfl rfl) ?_
 refine GoO.pure (ps_extract rfl rfl rfl) ?_
 refine GoO.pure (ps_assign rfl rfl) ?_
 refine GoO.pure (ps_assign rfl rfl) ?_
 refine GoO.nil ?_
 refine GoK.code ?_
 refine GoC.seq ?_
 refine GoC.seq ?_
 refine GoC.region ?_
 refine GoO.pure (ps_move rfl rfl) ?_
 refine GoO.pure (ps_neq rfl rfl rfl) ?_
 refine GoO.nil ?_
 refine GoK.code ?_
 refine GoC.condD rfl (fun h4 => ?_) (fun h4 => ?_)
 replace H := ite_t h4 H
 refine GoC.seq ?_
 refine GoC.region ?_
 refine GoO.pure (ps_move rfl rfl) ?_
 refine GoO.pure (ps_assign rfl rfl) ?_
 refine GoO.pure (ps_assign rfl rfl) ?_
 refine GoO.nil ?_
 refine GoK.code ?_
 obtain rfl := Option.some.inj H
 refine GoC.le (le_row0 77 2 (row ([] : List Piece)) rfl) ?_
 exact GoC.retL (ds := [.own ⟨0, 0, 0⟩ 2 0 0, .v (.int .i64 r2)]) Try.results46 (ResL.cons (ResD.le (ResD.tmp rfl) (by exact DLe.nilOwn)) (ResL.cons (ResD.tmp rfl) (ResL.nil))) (Take.cons _ _ _ _ _ Rem.p0 (Take.nil _)) ⟨⟨0, 0, 0⟩, rfl, rfl⟩
 replace H := ite_f h4 H
 refine GoC.skip ?_
 refine GoK.code ?_
 refine GoC.seq ?_
 refine GoC.region ?_
 refine GoO.pure (ps_move rfl rfl) ?_
 refine GoO.pure (ps_len rfl (by constructor) rfl) ?_
 refine GoO.lenLe (n := t.length) (x := .tmp 23) rfl (by constructor) sl_lenLe (fun ml5 => ?_)
 have c7 := ck_l H; replace H := ck_r H
 refine GoO.effB (ef_makeZ rfl rfl c7 rfl rfl rfl) (fun β6 => ?_)
 refine GoO.le (Le.reH At.p0 (HLe.grid0Z (α := Int) (n := ((t.length : Nat) : Int).toNat) (fun _ => DLe.nilOwn))) ?_
 refine GoO.le (Le.grid0 3 Int (((t.length : Nat) : Int).toNat)) ?_
 refine GoO.pure (ps_assign rfl rfl) ?_
 refine GoO.nil ?_
 refine GoK.code ?_
 refine GoC.seq ?_
 refine GoC.seq ?_
 refine GoC.region ?_
 refine GoO.pure (ps_move rfl rfl) ?_
 refine GoO.pure (ps_len rfl (by constructor) rfl) ?_
 refine GoO.pure (ps_move rfl rfl) ?_
 refine GoO.nil ?_
 refine GoK.code ?_
 have hb := bind_l H; clear H
 obtain ⟨g13, hl20, HK10⟩ := hb
 refine GoC.blockJ [(4, .v (.int .i64 r1))] [] (fun v h => ∃ (Γ9 : Nat → BK), v = [(6, .own β6 1 0 g13.length)] ∧ h = [.one β6 27 1 (gridC Γ9 g13), gridH (α := Int) 3 Γ9 g13]) ?_ ?_
 refine GoC.loopJ [(4, _), (26, _), (27, _)] [] (fun mQ v h => ∃ (k14 : Nat) (g8 : (List (List Int))) (Γ9 : Nat → BK), (k14 + mQ = t.length ∧ forN (double_Split_B1 t) mQ k14 g8 = some g13) ∧ v = [(28, .v (.int .i64 ((k14 : Nat) : Int))), (6, .own β6 1 0 g8.length)] ∧ h = [.one β6 27 1 (gridC Γ9 g8), gridH (α := Int) 3 Γ9 g8]) t.length ⟨_, _, (fun _ => (⟨0, 0, 0⟩ : BK)), ⟨by omega, hl20⟩, rfl, rfl⟩ (EnvD.eq rfl (EnvD.cons rfl (DLe.len (by first | rfl | omega | (simp only [row_len, gridC_len, rowO_len, List.length_cons, List.length_nil, List.length_replicate, List.length_nil] <;> first | rfl | omega))) (EnvD.eq rfl (EnvD.eq rfl (EnvD.eq rfl (EnvD.nil)))))) (TkD.cons _ _ _ _ _ Rem.p1 (HLe.refl _) (TkD.cons _ _ _ _ _ Rem.p0 (HLe.refl _) (TkD.nil _))) ?_
 rintro m15 v h ⟨k14, g8, Γ9, ⟨hkk14, hF11⟩, rfl, rfl⟩
 refine GoC.seq ?_
 refine GoC.region ?_
 refine GoO.pure (ps_lss rfl rfl rfl) ?_
 refine GoO.nil ?_
 refine GoK.code ?_
 refine GoC.seq ?_
 refine GoC.condD rfl (fun (hk14 : (k14 : Int) < ((t.length : Nat) : Int)) => ?_) (fun (hk14 : ¬ (k14 : Int) < ((t.length : Nat) : Int)) => ?_)
 obtain ⟨m15', rfl⟩ : ∃ x, m15 = x + 1 := ⟨m15 - 1, by omega⟩
 have hb := bind_l hF11; clear hF11
 obtain ⟨qrm15, H, hF11⟩ := hb
 have hnk14 : k14 < t.length := by omega
 have hIk14 : InI ((k14 : Int) + 1) := inI_len hk14 ml5
 refine GoC.skip ?_
 refine GoK.code ?_
 refine GoC.seq ?_
 refine GoC.block ?_
 refine GoC.seq ?_
 refine GoC.region ?_
 refine GoO.pure (ps_move rfl rfl) ?_
 refine GoO.pure (ps_indexAddrRN rfl rfl hnk14 rfl) ?_
 refine GoO.pure (ps_loadR rfl hnk14 rfl rfl) ?_
 refine GoO.pure (ps_assign rfl rfl) ?_
 refine GoO.pure (ps_assign rfl rfl) ?_
 refine GoO.nil ?_
 refine GoK.code ?_
 refine GoC.region ?_
 refine GoO.pure (ps_move rfl rfl) ?_
 refine GoO.pure (ps_move rfl rfl) ?_
 refine GoO.pure (ps_move rfl rfl) ?_
 have hb := bind_l H; clear H
 obtain ⟨r16, e18, H⟩ := hb
 refine GoO.effC (ef_call rfl (Take.nil _) (Take.nil _) (slices_Clone_int_spec (t.getD k14 []) e18) (LendL.cons (Lend.refl _ _) (LendL.nil)) rfl (slices_Clone_int_I (r16))) (fun rr HH hp => ?_)
 obtain ⟨β17, rfl, rfl⟩ := hp
 have c19 := ck_l H; replace H := ck_r H
 refine GoO.pure (ps_indexAddr0N rfl rfl c19 rfl) ?_
 refine GoO.eff1 (ef_store rfl rfl rfl At.p1 (upd_grid (α := Int) (ys := r16) rfl (by first | rfl | omega | (simp only [subl_length, cpl_length, List.length_set, List.length_append, List.length_cons, List.length_nil, List.length_replicate, row_len]; omega) | (simp only [subl_length, cpl_length, List.length_set, List.length_append, List.length_cons, List.length_nil, List.length_replicate, row_len]; done) | simp)) c19 rfl) ?_
 refine GoO.le (Le.absorb (α := Int) (B := Γ9) (xs := g8) (ys := r16) (i := k14) Rem.p0 Rem.p1 rfl (fun _ _ => rfl) (fun _ _ => rfl)) ?_
 refine GoO.nil ?_
 refine GoK.blk ?_
 refine GoK.code ?_
 refine GoC.region ?_
 refine GoO.pure (ps_add rfl rfl rfl hIk14) ?_
 refine GoO.pure (ps_move rfl rfl) ?_
 refine GoO.nil ?_
 obtain rfl := Option.some.inj H
 exact GoK.againJ m15' (by omega) ⟨_, _, (updF Γ9 k14 β17), ⟨by omega, hF11⟩, rfl, rfl⟩ (EnvD.eq rfl (EnvD.cons rfl (DLe.len (by first | rfl | omega | (simp only [row_len, gridC_len, rowO_len, List.length_set] <;> first | rfl | omega))) (EnvD.eq rfl (EnvD.eq rfl (EnvD.eq rfl (EnvD.nil)))))) (TkD.cons _ _ _ _ _ Rem.p1 (HLe.refl _) (TkD.cons _ _ _ _ _ Rem.p0 (HLe.refl _) (TkD.nil _)))
 obtain rfl : m15 = 0 := by omega
 refine GoC.exit rfl ?_
 cases hF11
 exact GoK.meet ⟨Γ9, rfl, rfl⟩ (EnvD.cons rfl (DLe.len (by first | rfl | omega | (simp only [row_len, gridC_len, rowO_len] <;> first | rfl | omega))) (EnvD.eq rfl (EnvD.nil))) (TkD.cons _ _ _ _ _ Rem.p0 (HLe.refl _) (TkD.cons _ _ _ _ _ Rem.p0 (HLe.refl _) (TkD.nil _)))
 rintro v h ⟨Γ9, rfl, rfl⟩
 have H := HK10; clear HK10
 refine GoK.code ?_
 refine GoC.seq ?_
 refine GoC.region ?_
 refine GoO.pure (ps_assign rfl rfl) ?_
 refine GoO.nil ?_
 refine GoK.code ?_
 refine GoC.seq ?_
 have hb := bind_l H; clear H
 obtain ⟨q28, hl65, HK26⟩ := hb
 refine GoC.blockJ [] [] (fun v h => ∃ (x29 : Int) (g30 : (List (List Int))) (l31 : (List Piece)) (Γ23 : Nat → BK) (β24 : BK), q28 = .go (x29, g30, l31) ∧ v = [(9, .own β24 2 0 l31.length)] ∧ h = [.one β6 27 1 (gridC Γ23 g30), gridH (α := Int) 3 Γ23 g30, .one β24 77 2 (row l31)]) ?_ ?_
 refine GoC.loopJ [] [] (fun mQ v h => ∃ (x21 : Int) (g22 : (List (List Int))) (l25 : (List Piece)) (Γ23 : Nat → BK) (β24 : BK), loopC (double_Split_B2) mQ (x21, g22, l25) = some q28 ∧ v = [(4, .v (.int .i64 x21)), (6, .own β6 1 0 g22.length), (9, .own β24 2 0 l25.length)] ∧ h = [.one β6 27 1 (gridC Γ23 g22), gridH (α := Int) 3 Γ23 g22, .one β24 77 2 (row l25)]) 1000000 ⟨_, _, _, Γ9, ⟨0, 0, 0⟩, hl65, rfl, rfl⟩ (EnvD.eq rfl (EnvD.cons rfl (DLe.len (by first | rfl | omega | (simp only [row_len, gridC_len, rowO_len] <;> first | rfl | omega))) (EnvD.cons rfl (DLe.nilOwn) (EnvD.nil)))) (TkD.cons _ _ _ _ _ Rem.p0 (HLe.refl _) (TkD.cons _ _ _ _ _ Rem.p0 (HLe.refl _) (TkD.no _ _ _ _ _ rfl (TkD.nil _)))) ?_
 rintro m32 v h ⟨x21, g22, l25, Γ23, β24, hF27, rfl, rfl⟩
 obtain ⟨m32', rfl⟩ | rfl : (∃ x, m32 = x + 1) ∨ m32 = 0 := by cases m32 <;> simp
 case inr => cases hF27
 have hb := bind_l hF27; clear hF27
 obtain ⟨qrm32, H, hF27⟩ := hb
 refine GoC.seq ?_
 refine GoC.seq ?_
 refine GoC.region ?_
 refine GoO.pure (ps_move rfl rfl) ?_
 refine GoO.pure (ps_gtr rfl rfl rfl) ?_
 refine GoO.nil ?_
 refine GoK.code ?_
 refine GoC.condD rfl (fun h33 => ?_) (fun h33 => ?_)
 replace H := ite_t h33 H
 refine GoC.skip ?_
 refine GoK.code ?_
 refine GoC.block ?_
 refine GoC.seq ?_
 refine GoC.region ?_
 refine GoO.pure (ps_move rfl rfl) ?_
 refine GoO.pure (ps_move rfl rfl) ?_
 have hb := bind_l H; clear H
 obtain ⟨r34, e36, H⟩ := hb
 refine GoO.effC (ef_call rfl (Take.nil _) (Take.cons _ _ _ _ _ Rem.p0 (Take.cons _ _ _ _ _ Rem.p0 (Take.nil _))) (double_first_spec 100 g22 0 [] e36) (LendL.cons (Lend.grid (α := Int) (xs := g22) At.p0 At.p1 (by first | rfl | omega | (simp only [subl_length, cpl_length, List.length_set, List.length_append, List.length_cons, List.length_nil, List.length_replicate, row_len]; omega) | (simp only [subl_length, cpl_length, List.length_set, List.length_append, List.length_cons, List.length_nil, List.length_replicate, row_len]; done) | simp)) (LendL.cons (Lend.refl _ _) (LendL.cons (Lend.nil) (LendL.nil)))) rfl (double_first_I (r34))) (fun rr HH hp => ?_)
 obtain ⟨β35, rfl, rfl⟩ := hp
 refine GoO.le (Le.re 43 rfl DLe.ofNil) ?_
 refine GoO.pure (ps_build (Parts.cons _ _ _ _ _ _ _ _ FdP.of (Part.one _ rfl rfl) rfl rfl (Parts.cons _ _ _ _ _ _ _ _ FdP.of (Part.one _ rfl rfl) rfl rfl (Parts.nil _))) rfl) ?_
 refine GoO.effB (ef_alloc rfl) (fun β37 => ?_)
 refine GoO.eff1 (ef_storeAg rfl rfl At.p0 upd_whole Nat.zero_lt_one rfl) ?_
 refine GoO.nil ?_
 refine GoK.code ?_
 refine GoC.seq ?_
 refine GoC.seq ?_
 refine GoC.region ?_
 refine GoO.pure (ps_fieldAddr rfl rfl) ?_
 refine GoO.pure (ps_load rfl At.p0 At.p0 Nat.zero_lt_one rfl rfl) ?_
 refine GoO.pure (ps_len rfl (by constructor) rfl) ?_
 refine GoO.lenLe (n := r34.length) (x := .tmp 46) rfl (by constructor) own_lenLe (fun ml38 => ?_)
 refine GoO.pure (ps_move rfl rfl) ?_
 refine GoO.nil ?_
 refine GoK.code ?_
 have hb := bind_l H; clear H
 obtain ⟨x43, hl48, HK40⟩ := hb
 refine GoC.blockJ [(4, .v (.int .i64 x21)), (6, .own β6 1 0 g22.length), (9, .own β24 2 0 l25.length)] [.one β35 3 1 (row r34), .one β6 27 1 (gridC Γ23 g22), gridH (α := Int) 3 Γ23 g22, .one β24 77 2 (row l25)] (fun v h => v = [(10, .ptr β37 2 0 0)] ∧ h = [.one β37 77 2 (st1 (nth [.v (.int .i64 x43), .own β35 1 0 r34.length]))]) ?_ ?_
 refine GoC.loopJ [(4, _), (6, _), (9, _), (46, _), (47, _)] [.one β35 3 1 (row r34), .one β6 27 1 (gridC Γ23 g22), gridH (α := Int) 3 Γ23 g22, .one β24 77 2 (row l25)] (fun mQ v h => ∃ (k44 : Nat) (x39 : Int), (k44 + mQ = r34.length ∧ forN (double_Split_B3 g22 r34) mQ k44 x39 = some x43) ∧ v = [(48, .v (.int .i64 ((k44 : Nat) : Int))), (10, .ptr β37 2 0 0)] ∧ h = [.one β37 77 2 (st1 (nth [.v (.int .i64 x39), .own β35 1 0 r34.length]))]) r34.length ⟨_, _, ⟨by omega, hl48⟩, rfl, rfl⟩ (EnvD.eq rfl (EnvD.eq rfl (EnvD.eq rfl (EnvD.eq rfl (EnvD.eq rfl (EnvD.eq rfl (EnvD.eq rfl (EnvD.nil)))))))) (TkD.cons _ _ _ _ _ Rem.p0 (HLe.st ⟨⟨trivial, DLe.refl _⟩, DLe.refl _⟩) (TkD.cons _ _ _ _ _ Rem.p0 (HLe.refl _) (TkD.cons _ _ _ _ _ Rem.p0 (HLe.refl _) (TkD.cons _ _ _ _ _ Rem.p0 (HLe.refl _) (TkD.cons _ _ _ _ _ Rem.p0 (HLe.refl _) (TkD.nil _)))))) ?_
 rintro m45 v h ⟨k44, x39, ⟨hkk44, hF41⟩, rfl, rfl⟩
 refine GoC.seq ?_
 refine GoC.region ?_
 refine GoO.pure (ps_lss rfl rfl rfl) ?_
 refine GoO.nil ?_
 refine GoK.code ?_
 refine GoC.seq ?_
 refine GoC.condD rfl (fun (hk44 : (k44 : Int) < ((r34.length : Nat) : Int)) => ?_) (fun (hk44 : ¬ (k44 : Int) < ((r34.length : Nat) : Int)) => ?_)
 obtain ⟨m45', rfl⟩ : ∃ x, m45 = x + 1 := ⟨m45 - 1, by omega⟩
 have hb := bind_l hF41; clear hF41
 obtain ⟨qrm45, H, hF41⟩ := hb
 have hnk44 : k44 < r34.length := by omega
 have hIk44 : InI ((k44 : Int) + 1) := inI_len hk44 ml38
 refine GoC.skip ?_
 refine GoK.code ?_
 refine GoC.seq ?_
 refine GoC.block ?_
 refine GoC.seq ?_
 refine GoC.region ?_
 refine GoO.pure (ps_move rfl rfl) ?_
 refine GoO.pure (ps_indexAddr0N rfl rfl hnk44 rfl) ?_
 refine GoO.pure (ps_load rfl At.p1 At.p1 hnk44 rfl rfl) ?_
 refine GoO.pure (ps_assign rfl rfl) ?_
 refine GoO.pure (ps_assign rfl rfl) ?_
 refine GoO.nil ?_
 refine GoK.code ?_
 refine GoC.drawQ (.q 0 (.q 1 (.q 2 (.q 3 (.q 4 (.q 5 (.q 6 (.q 7 (.q 8 (.q 9 (.q 10 (.one 11 (.done))))))))))))) 11 follows (by kernel_rfl) ?_
 refine GoQ.qP rfl rfl (ps_fieldAddr rfl rfl) ?_
 refine GoQ.qN rfl (by kernel_rfl) (ps_load rfl At.p0 At.p0 Nat.zero_lt_one rfl rfl) ?_
 refine GoQ.qP rfl rfl (ps_move rfl rfl) ?_
 refine GoQ.qP rfl rfl (ps_move rfl rfl) ?_
 have c46 := ck_l H; replace H := ck_r H
 refine GoQ.qP rfl rfl (ps_indexAddr0N rfl rfl c46 rfl) ?_
 refine GoQ.qN rfl (by kernel_rfl) (ps_load rfl At.p2 At.p2 c46 rfl rfl) ?_
 refine GoQ.qP rfl rfl (ps_move rfl rfl) ?_
 have c47 := ck_l H; replace H := ck_r H
 refine GoQ.qP rfl rfl (ps_indexAddr0 rfl rfl c47 rfl) ?_
 refine GoQ.qN rfl (by kernel_rfl) (ps_loadG (α := Int) (xs := g22) rfl rfl At.p3 At.p3 c46 (idx_lt c47) rfl rfl) ?_
 refine GoQ.qP rfl rfl (ps_min rfl rfl rfl) ?_
 refine GoQ.qP rfl rfl (ps_fieldAddr rfl rfl) ?_
 refine GoQ.last1 rfl trivial (ef_store rfl rfl rfl At.p0 upd_st1 Nat.zero_lt_one rfl) (Take.cons _ _ _ _ _ Rem.p0 (Take.nil _)) ?_
 refine GoP.done ?_
 refine GoK.blk ?_
 refine GoK.code ?_
 refine GoC.region ?_
 refine GoO.pure (ps_add rfl rfl rfl hIk44) ?_
 refine GoO.pure (ps_move rfl rfl) ?_
 refine GoO.nil ?_
 obtain rfl := Option.some.inj H
 exact GoK.againJ m45' (by omega) ⟨_, _, ⟨by omega, hF41⟩, rfl, rfl⟩ (EnvD.eq rfl (EnvD.eq rfl (EnvD.eq rfl (EnvD.eq rfl (EnvD.eq rfl (EnvD.eq rfl (EnvD.eq rfl (EnvD.nil)))))))) (TkD.cons _ _ _ _ _ Rem.p0 (HLe.st ⟨⟨trivial, DLe.refl _⟩, DLe.refl _⟩) (TkD.cons _ _ _ _ _ Rem.p0 (HLe.refl _) (TkD.cons _ _ _ _ _ Rem.p0 (HLe.refl _) (TkD.cons _ _ _ _ _ Rem.p0 (HLe.refl _) (TkD.cons _ _ _ _ _ Rem.p0 (HLe.refl _) (TkD.nil _))))))
 obtain rfl : m45 = 0 := by omega
 refine GoC.exit rfl ?_
 cases hF41
 exact GoK.meet ⟨rfl, rfl⟩ (EnvD.eq rfl (EnvD.eq rfl (EnvD.eq rfl (EnvD.eq rfl (EnvD.nil))))) (TkD.cons _ _ _ _ _ Rem.p0 (HLe.st ⟨⟨trivial, DLe.refl _⟩, DLe.refl _⟩) (TkD.cons _ _ _ _ _ Rem.p0 (HLe.refl _) (TkD.cons _ _ _ _ _ Rem.p0 (HLe.refl _) (TkD.cons _ _ _ _ _ Rem.p0 (HLe.refl _) (TkD.cons _ _ _ _ _ Rem.p0 (HLe.refl _) (TkD.nil _))))))
 rintro v h ⟨rfl, rfl⟩
 have H := HK40; clear HK40
 refine GoK.code ?_
 refine GoC.seq ?_
 refine GoC.seq ?_
 refine GoC.region ?_
 refine GoO.pure (ps_fieldAddr rfl rfl) ?_
 refine GoO.pure (ps_load rfl At.p0 At.p0 Nat.zero_lt_one rfl rfl) ?_
 refine GoO.pure (ps_len rfl (by constructor) rfl) ?_
 refine GoO.pure (ps_move rfl rfl) ?_
 refine GoO.nil ?_
 refine GoK.code ?_
 have hb := bind_l H; clear H
 obtain ⟨g54, hl60, HK51⟩ := hb
 refine GoC.blockJ [(4, .v (.int .i64 x21)), (9, .own β24 2 0 l25.length), (10, .ptr β37 2 0 0)] [.one β37 77 2 (st1 (nth [.v (.int .i64 x43), .own β35 1 0 r34.length])), .one β35 3 1 (row r34), .one β24 77 2 (row l25)] (fun v h => ∃ (Γ50 : Nat → BK), v = [(6, .own β6 1 0 g54.length)] ∧ h = [.one β6 27 1 (gridC Γ50 g54), gridH (α := Int) 3 Γ50 g54]) ?_ ?_
 refine GoC.loopJ [(4, _), (9, _), (10, _), (66, _), (67, _)] [.one β37 77 2 (st1 (nth [.v (.int .i64 x43), .own β35 1 0 r34.length])), .one β35 3 1 (row r34), .one β24 77 2 (row l25)] (fun mQ v h => ∃ (k55 : Nat) (g49 : (List (List Int))) (Γ50 : Nat → BK), (k55 + mQ = r34.length ∧ forN (double_Split_B4 r34 x43) mQ k55 g49 = some g54) ∧ v = [(68, .v (.int .i64 ((k55 : Nat) : Int))), (6, .own β6 1 0 g49.length)] ∧ h = [.one β6 27 1 (gridC Γ50 g49), gridH (α := Int) 3 Γ50 g49]) r34.length ⟨_, _, Γ23, ⟨by omega, hl60⟩, rfl, rfl⟩ (EnvD.eq rfl (EnvD.cons rfl (DLe.len (by first | rfl | omega | (simp only [row_len, gridC_len, rowO_len] <;> first | rfl | omega))) (EnvD.eq rfl (EnvD.eq rfl (EnvD.eq rfl (EnvD.eq rfl (EnvD.eq rfl (EnvD.nil)))))))) (TkD.cons _ _ _ _ _ Rem.p2 (HLe.refl _) (TkD.cons _ _ _ _ _ Rem.p2 (HLe.refl _) (TkD.cons _ _ _ _ _ Rem.p0 (HLe.st ⟨⟨trivial, DLe.refl _⟩, DLe.refl _⟩) (TkD.cons _ _ _ _ _ Rem.p0 (HLe.refl _) (TkD.cons _ _ _ _ _ Rem.p0 (HLe.refl _) (TkD.nil _)))))) ?_
 rintro m56 v h ⟨k55, g49, Γ50, ⟨hkk55, hF52⟩, rfl, rfl⟩
 refine GoC.seq ?_
 refine GoC.region ?_
 refine GoO.pure (ps_lss rfl rfl rfl) ?_
 refine GoO.nil ?_
 refine GoK.code ?_
 refine GoC.seq ?_
 refine GoC.condD rfl (fun (hk55 : (k55 : Int) < ((r34.length : Nat) : Int)) => ?_) (fun (hk55 : ¬ (k55 : Int) < ((r34.length : Nat) : Int)) => ?_)
 obtain ⟨m56', rfl⟩ : ∃ x, m56 = x + 1 := ⟨m56 - 1, by omega⟩
 have hb := bind_l hF52; clear hF52
 obtain ⟨qrm56, H, hF52⟩ := hb
 have hnk55 : k55 < r34.length := by omega
 have hIk55 : InI ((k55 : Int) + 1) := inI_len hk55 ml38
 refine GoC.skip ?_
 refine GoK.code ?_
 refine GoC.seq ?_
 refine GoC.block ?_
 refine GoC.seq ?_
 refine GoC.region ?_
 refine GoO.pure (ps_move rfl rfl) ?_
 refine GoO.pure (ps_indexAddr0N rfl rfl hnk55 rfl) ?_
 refine GoO.pure (ps_load rfl At.p3 At.p3 hnk55 rfl rfl) ?_
 refine GoO.pure (ps_assign rfl rfl) ?_
 refine GoO.pure (ps_assign rfl rfl) ?_
 refine GoO.nil ?_
 refine GoK.code ?_
 refine GoC.drawQ (.q 0 (.q 1 (.q 2 (.q 3 (.q 4 (.q 5 (.q 6 (.q 7 (.q 8 (.q 9 (.q 10 (.one 11 (.done))))))))))))) 11 follows (by kernel_rfl) ?_
 refine GoQ.qP rfl rfl (ps_move rfl rfl) ?_
 refine GoQ.qP rfl rfl (ps_move rfl rfl) ?_
 have c57 := ck_l H; replace H := ck_r H
 refine GoQ.qP rfl rfl (ps_indexAddr0N rfl rfl c57 rfl) ?_
 refine GoQ.qN rfl (by kernel_rfl) (ps_load rfl At.p0 At.p0 c57 rfl rfl) ?_
 refine GoQ.qP rfl rfl (ps_move rfl rfl) ?_
 have c58 := ck_l H; replace H := ck_r H
 refine GoQ.qP rfl rfl (ps_indexAddr0 rfl rfl c58 rfl) ?_
 refine GoQ.qN rfl (by kernel_rfl) (ps_loadG (α := Int) (xs := g49) rfl rfl At.p1 At.p1 c57 (idx_lt c58) rfl rfl) ?_
 refine GoQ.qP rfl rfl (ps_fieldAddr rfl rfl) ?_
 refine GoQ.qN rfl (by kernel_rfl) (ps_load rfl At.p2 At.p2 Nat.zero_lt_one rfl rfl) ?_
 have c59 := ck_l H; replace H := ck_r H
 refine GoQ.qP rfl rfl (ps_sub rfl rfl rfl c59) ?_
 refine GoQ.qP rfl rfl (ps_indexAddr0 rfl rfl c58 rfl) ?_
 refine GoQ.last1 rfl trivial (ef_storeG (α := Int) (xs := g49) (v := (((g49.getD k55 []).getD ((r34.getD k55 (0 : Int)).toNat) (0 : Int)) - x43)) rfl rfl rfl rfl At.p1 (upd_row1 (v := (((g49.getD k55 []).getD ((r34.getD k55 (0 : Int)).toNat) (0 : Int)) - x43)) rfl) c57 (idx_lt c58) rfl) (Take.cons _ _ _ _ _ Rem.p1 (Take.nil _)) ?_
 refine GoP.leD (Le.reH At.p0 (HLe.gridW (α := Int) (i := k55) (e := (r34.getD k55 (0 : Int)).toNat) (v := (((g49.getD k55 []).getD ((r34.getD k55 (0 : Int)).toNat) (0 : Int)) - x43)))) ?_
 refine GoP.done ?_
 refine GoK.blk ?_
 refine GoK.code ?_
 refine GoC.region ?_
 refine GoO.pure (ps_add rfl rfl rfl hIk55) ?_
 refine GoO.pure (ps_move rfl rfl) ?_
 refine GoO.nil ?_
 obtain rfl := Option.some.inj H
 exact GoK.againJ m56' (by omega) ⟨_, _, Γ50, ⟨by omega, hF52⟩, rfl, rfl⟩ (EnvD.eq rfl (EnvD.cons rfl (DLe.len (by first | rfl | omega | (simp only [row_len, gridC_len, rowO_len, List.length_set, List.length_cons, List.length_nil, List.length_nil] <;> first | rfl | omega))) (EnvD.eq rfl (EnvD.eq rfl (EnvD.eq rfl (EnvD.eq rfl (EnvD.eq rfl (EnvD.nil)))))))) (TkD.cons _ _ _ _ _ Rem.p0 (HLe.refl _) (TkD.cons _ _ _ _ _ Rem.p0 (HLe.refl _) (TkD.cons _ _ _ _ _ Rem.p0 (HLe.st ⟨⟨trivial, DLe.refl _⟩, DLe.refl _⟩) (TkD.cons _ _ _ _ _ Rem.p0 (HLe.refl _) (TkD.cons _ _ _ _ _ Rem.p0 (HLe.refl _) (TkD.nil _))))))
 obtain rfl : m56 = 0 := by omega
 refine GoC.exit rfl ?_
 cases hF52
 exact GoK.meet ⟨Γ50, rfl, rfl⟩ (EnvD.cons rfl (DLe.len (by first | rfl | omega | (simp only [row_len, gridC_len, rowO_len] <;> first | rfl | omega))) (EnvD.eq rfl (EnvD.eq rfl (EnvD.eq rfl (EnvD.nil))))) (TkD.cons _ _ _ _ _ Rem.p0 (HLe.refl _) (TkD.cons _ _ _ _ _ Rem.p0 (HLe.refl _) (TkD.cons _ _ _ _ _ Rem.p0 (HLe.st ⟨⟨trivial, DLe.refl _⟩, DLe.refl _⟩) (TkD.cons _ _ _ _ _ Rem.p0 (HLe.refl _) (TkD.cons _ _ _ _ _ Rem.p0 (HLe.refl _) (TkD.nil _))))))
 rintro v h ⟨Γ50, rfl, rfl⟩
 have H := HK51; clear HK51
 refine GoK.code ?_
 refine GoC.seq ?_
 refine GoC.region ?_
 refine GoO.pure (ps_move rfl rfl) ?_
 refine GoO.pure (ps_fieldAddr rfl rfl) ?_
 refine GoO.pure (ps_load rfl At.p2 At.p2 Nat.zero_lt_one rfl rfl) ?_
 have c61 := ck_l H; replace H := ck_r H
 refine GoO.pure (ps_sub rfl rfl rfl c61) ?_
 refine GoO.pure (ps_assign rfl rfl) ?_
 refine GoO.nil ?_
 refine GoK.code ?_
 refine GoC.region ?_
 refine GoO.pure (ps_move rfl rfl) ?_
 refine GoO.pure (ps_loadAg rfl At.p2 At.p2 Nat.zero_lt_one rfl rfl) ?_
 refine GoO.freezeB (j := 90) (r' := .ag 2 (nth [.v (.int .i64 x43), slD r34])) rfl Rem.p3 (Lend.agA ⟨⟨trivial, Lend.refl _ _⟩, Lend.all' At.p0 (by first | rfl | omega | (simp only [row_len, gridC_len, rowO_len] <;> first | rfl | omega)) rfl⟩) no_fps (g' := nth [.v (.int .i64 x43), slD r34]) At.p2 ⟨⟨trivial, Lend.refl _ _⟩, Lend.all' At.p0 (by first | rfl | omega | (simp only [row_len, gridC_len, rowO_len] <;> first | rfl | omega)) rfl⟩ ?_
 refine GoO.effB (ef_buildSlice (row ([(⟨x43, r34⟩ : Piece)] : List Piece)) rfl (Parts.cons _ _ _ _ _ _ _ _ ⟨rfl, rfl⟩ (Part.ag _ _ rfl) rfl rfl (Parts.nil _)) rfl rfl rfl rfl) (fun β62 => ?_)
 have c64 := ck_l H; replace H := ck_r H
 refine GoO.effB (ef_append rfl rfl Rem.p4 (Src.own At.p0 (by first | omega | (simp only [subl_length, cpl_length, List.length_set, List.length_append, List.length_cons, List.length_nil, List.length_replicate, row_len]; omega) | (simp only [subl_length, cpl_length, List.length_set, List.length_append, List.length_cons, List.length_nil, List.length_replicate, row_len]; done))) (cat_row (α := Piece) (by first | rfl | omega | (simp only [subl_length, cpl_length, List.length_set, List.length_append, List.length_cons, List.length_nil, List.length_replicate, row_len] <;> first | rfl | omega)) (by first | rfl | omega | (simp only [subl_length, cpl_length, List.length_set, List.length_append, List.length_cons, List.length_nil, List.length_replicate, row_len] <;> first | rfl | omega)) (fun _ _ _ _ => rfl)) (by first | omega | (simp only [subl_length, cpl_length, List.length_set, List.length_append, List.length_cons, List.length_nil, List.length_replicate, row_len]; omega) | (simp only [subl_length, cpl_length, List.length_set, List.length_append, List.length_cons, List.length_nil, List.length_replicate, row_len]; done)) (app_le c64 rfl) rfl rfl rfl) (fun β63 => ?_)
 refine GoO.pure (ps_assign rfl rfl) ?_
 refine GoO.nil ?_
 refine GoK.blk ?_
 obtain rfl := Option.some.inj H
 exact GoK.againJ m32' (by omega) ⟨_, _, _, Γ50, β63, hF27, rfl, rfl⟩ (EnvD.eq rfl (EnvD.cons rfl (DLe.len (by first | rfl | omega | (simp only [row_len, gridC_len, rowO_len] <;> first | rfl | omega))) (EnvD.cons rfl (DLe.len (by first | rfl | omega | (simp only [row_len, gridC_len, rowO_len, List.length_append, List.length_cons, List.length_nil] <;> first | rfl | omega))) (EnvD.nil)))) (TkD.cons _ _ _ _ _ Rem.p2 (HLe.refl _) (TkD.cons _ _ _ _ _ Rem.p2 (HLe.refl _) (TkD.cons _ _ _ _ _ Rem.p0 (HLe.refl _) (TkD.nil _))))
 replace H := ite_f h33 H
 refine GoC.exit rfl ?_
 obtain rfl := Option.some.inj H
 obtain rfl := Option.some.inj hF27
 exact GoK.meet ⟨_, _, _, Γ23, β24, rfl, rfl, rfl⟩ (EnvD.cons rfl (DLe.len (by first | rfl | omega | (simp only [row_len, gridC_len, rowO_len] <;> first | rfl | omega))) (EnvD.nil)) (TkD.cons _ _ _ _ _ Rem.p0 (HLe.refl _) (TkD.cons _ _ _ _ _ Rem.p0 (HLe.refl _) (TkD.cons _ _ _ _ _ Rem.p0 (HLe.refl _) (TkD.nil _))))
 rintro v h ⟨x29, g30, l31, Γ23, β24, rfl, rfl, rfl⟩
 have H := HK26; clear HK26
 refine GoK.code ?_
 refine GoC.seq ?_
 refine GoC.region ?_
 refine GoO.pure (ps_move rfl rfl) ?_
 refine GoO.pure (ps_assign rfl rfl) ?_
 refine GoO.pure (ps_assign rfl rfl) ?_
 refine GoO.nil ?_
 refine GoK.code ?_
 obtain rfl := Option.some.inj H
 exact GoC.retL (ds := [.own β24 2 0 l31.length, .v (.int .i64 0)]) Try.results46 (ResL.cons (ResD.tmp rfl) (ResL.cons (ResD.tmp rfl) (ResL.nil))) (Take.cons _ _ _ _ _ Rem.p2 (Take.nil _)) ⟨β24, rfl, rfl⟩

end Go.Proofs.Ytkpdkigkhbkfiaa
