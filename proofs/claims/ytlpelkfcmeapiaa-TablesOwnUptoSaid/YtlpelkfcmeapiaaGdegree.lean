/- The functions degree.Check, degree.Can, degree.Make, told as plain functions, and that the code does as they say. -/
import Derived.Test.YtlpelkfcmeapiaaTys
import Derived.Test.YtlpelkfcmeapiaaDat
import Derived.Test.YtlpelkfcmeapiaaGslices
namespace Go.Proofs.Ytlpelkfcmeapiaa
open Go Go.Proofs.Ytlpelkfcmeapiaa.Sx
set_option linter.unusedVariables false
set_option linter.unusedSimpArgs false
def degree_Check_B1 (l : (List Int)) : Nat → Unit → Option (Ct (Unit) (Int)) := fun k6 _ =>
 if (l.getD k6 (0 : Int)) < 0 then
  some (.ret 1)
 else
  if ((l.length : Nat) : Int) ≤ (l.getD k6 (0 : Int)) then
   some (.ret 1)
  else
   some (.go ())
def degree_Check_F (l : (List Int)) : Option (Int) :=
 if 12 < ((l.length : Nat) : Int) then
  some 2
 else
  (forC (degree_Check_B1 l) l.length 0 ()).bind fun q => match q with
  | .go _ =>
   some 0
  | .ret x => some x
def degree_Check_P (out : Int) (d : D) (H : List HL) : Prop := d = .v (.int .i64 out) ∧ H = []
theorem degree_Check_I (out : Int) : IndepP (degree_Check_P out) := IndepP.of (by rintro _ _ ⟨rfl, rfl⟩; exact ⟨inferInstance, inferInstance⟩)
set_option maxRecDepth 100000 in
set_option maxHeartbeats 4000000 in
theorem degree_Check_spec (l : (List Int)) {out : Int} (H : degree_Check_F l = some out) : Does Try.prog 72 [slD l] [] (degree_Check_P out) := by
 unfold degree_Check_F at H
 refine Does.intro Try.func72 rfl Try.ntmps72 rfl fun w0 I0 => ?_
 refine GoC.seq ?_
 refine GoC.region ?_
 refine GoO.pure (ps_assign rfl rfl) ?_
 refine GoO.nil ?_
 refine GoK.code ?_
 refine GoC.seq ?_
 refine GoC.seq ?_
 refine GoC.region ?_
 refine GoO.pure (ps_move rfl rfl) ?_
 refine GoO.pure (ps_len rfl (by constructor) rfl) ?_
 refine GoO.lenLe (n := l.length) (x := .tmp 5) rfl (by constructor) sl_lenLe (fun ml1 => ?_)
 refine GoO.pure (ps_gtr rfl rfl rfl) ?_
 refine GoO.nil ?_
 refine GoK.code ?_
 refine GoC.condD rfl (fun h2 => ?_) (fun h2 => ?_)
 replace H := ite_t h2 H
 refine GoC.seq ?_
 refine GoC.region ?_
 refine GoO.pure (ps_assign rfl rfl) ?_
 refine GoO.nil ?_
 refine GoK.code ?_
 obtain rfl := Option.some.inj H
 exact GoC.retL (ds := [.v (.int .i64 2)]) Try.results72 (ResL.cons (ResD.tmp rfl) (ResL.nil)) (Take.nil _) ⟨rfl, rfl⟩
 replace H := ite_f h2 H
 refine GoC.skip ?_
 refine GoK.code ?_
 refine GoC.seq ?_
 refine GoC.seq ?_
 refine GoC.region ?_
 refine GoO.pure (ps_move rfl rfl) ?_
 refine GoO.pure (ps_len rfl (by constructor) rfl) ?_
 refine GoO.pure (ps_move rfl rfl) ?_
 refine GoO.nil ?_
 refine GoK.code ?_
 have hb := bind_l H; clear H
 obtain ⟨q5, hl10, HK3⟩ := hb
 refine GoC.blockJ [] [] (fun v h => q5 = .go () ∧ v = [] ∧ h = []) ?_ ?_
 refine GoC.loopJ [(0, _), (8, _), (9, _)] [] (fun mQ v h => ∃ (k6 : Nat), (k6 + mQ = l.length ∧ forC (degree_Check_B1 l) mQ k6 () = some q5) ∧ v = [(10, .v (.int .i64 ((k6 : Nat) : Int)))] ∧ h = []) l.length ⟨_, ⟨by omega, hl10⟩, rfl, rfl⟩ (EnvD.eq rfl (EnvD.eq rfl (EnvD.eq rfl (EnvD.eq rfl (EnvD.nil))))) (TkD.nil _) ?_
 rintro m7 v h ⟨k6, ⟨hkk6, hF4⟩, rfl, rfl⟩
 refine GoC.seq ?_
 refine GoC.region ?_
 refine GoO.pure (ps_lss rfl rfl rfl) ?_
 refine GoO.nil ?_
 refine GoK.code ?_
 refine GoC.seq ?_
 refine GoC.condD rfl (fun (hk6 : (k6 : Int) < ((l.length : Nat) : Int)) => ?_) (fun (hk6 : ¬ (k6 : Int) < ((l.length : Nat) : Int)) => ?_)
 obtain ⟨m7', rfl⟩ : ∃ x, m7 = x + 1 := ⟨m7 - 1, by omega⟩
 have hb := bind_l hF4; clear hF4
 obtain ⟨qrm7, H, hF4⟩ := hb
 have hnk6 : k6 < l.length := by omega
 have hIk6 : InI ((k6 : Int) + 1) := inI_len hk6 ml1
 refine GoC.skip ?_
 refine GoK.code ?_
 refine GoC.seq ?_
 refine GoC.block ?_
 refine GoC.seq ?_
 refine GoC.region ?_
 refine GoO.pure (ps_indexAddrRN rfl rfl hnk6 rfl) ?_
 refine GoO.pure (ps_loadR rfl hnk6 rfl rfl) ?_
 refine GoO.pure (ps_assign rfl rfl) ?_
 refine GoO.nil ?_
 refine GoK.code ?_
 refine GoC.seq ?_
 refine GoC.region ?_
 refine GoO.pure (ps_move rfl rfl) ?_
 refine GoO.pure (ps_lss rfl rfl rfl) ?_
 refine GoO.pure (ps_move rfl rfl) ?_
 refine GoO.guardE rfl rfl rfl rfl (fun h8 => ?_) (fun h8 => ?_)
 replace H := ite_f h8 H
 refine GoO.pure (ps_move rfl rfl) ?_
 refine GoO.guardT rfl rfl rfl ?_
 refine GoO.pure (ps_move rfl rfl) ?_
 refine GoO.guardT rfl rfl rfl ?_
 refine GoO.pure (ps_len rfl (by constructor) rfl) ?_
 refine GoO.guardT rfl rfl rfl ?_
 refine GoO.pure (ps_geq rfl rfl rfl) ?_
 refine GoO.pure (ps_pickF rfl rfl rfl) ?_
 refine GoO.nil ?_
 refine GoK.code ?_
 refine GoC.condD rfl (fun h9 => ?_) (fun h9 => ?_)
 replace H := ite_t h9 H
 refine GoC.seq ?_
 refine GoC.region ?_
 refine GoO.pure (ps_assign rfl rfl) ?_
 refine GoO.nil ?_
 refine GoK.code ?_
 obtain rfl := Option.some.inj H
 obtain rfl := Option.some.inj hF4
 obtain rfl := Option.some.inj HK3
 exact GoC.retL (ds := [.v (.int .i64 1)]) Try.results72 (ResL.cons (ResD.tmp rfl) (ResL.nil)) (Take.nil _) ⟨rfl, rfl⟩
 replace H := ite_f h9 H
 refine GoC.skip ?_
 refine GoK.blk ?_
 refine GoK.code ?_
 refine GoC.region ?_
 refine GoO.pure (ps_add rfl rfl rfl hIk6) ?_
 refine GoO.pure (ps_move rfl rfl) ?_
 refine GoO.nil ?_
 obtain rfl := Option.some.inj H
 exact GoK.againJ m7' (by omega) ⟨_, ⟨by omega, hF4⟩, rfl, rfl⟩ (EnvD.eq rfl (EnvD.eq rfl (EnvD.eq rfl (EnvD.eq rfl (EnvD.nil))))) (TkD.nil _)
 replace H := ite_t h8 H
 refine GoO.guardF rfl rfl rfl rfl ?_
 refine GoO.guardF rfl rfl rfl rfl ?_
 refine GoO.guardF rfl rfl rfl rfl ?_
 refine GoO.pure (ps_pickT rfl rfl rfl) ?_
 refine GoO.nil ?_
 refine GoK.code ?_
 refine GoC.condT rfl ?_
 refine GoC.seq ?_
 refine GoC.region ?_
 refine GoO.pure (ps_assign rfl rfl) ?_
 refine GoO.nil ?_
 refine GoK.code ?_
 obtain rfl := Option.some.inj H
 obtain rfl := Option.some.inj hF4
 obtain rfl := Option.some.inj HK3
 exact GoC.retL (ds := [.v (.int .i64 1)]) Try.results72 (ResL.cons (ResD.tmp rfl) (ResL.nil)) (Take.nil _) ⟨rfl, rfl⟩
 obtain rfl : m7 = 0 := by omega
 refine GoC.exit rfl ?_
 cases hF4
 exact GoK.meet ⟨rfl, rfl, rfl⟩ (EnvD.nil) (TkD.nil _)
 rintro v h ⟨rfl, rfl, rfl⟩
 have H := HK3; clear HK3
 refine GoK.code ?_
 refine GoC.seq ?_
 refine GoC.region ?_
 refine GoO.pure (ps_assign rfl rfl) ?_
 refine GoO.nil ?_
 refine GoK.code ?_
 obtain rfl := Option.some.inj H
 exact GoC.retL (ds := [.v (.int .i64 0)]) Try.results72 (ResL.cons (ResD.tmp rfl) (ResL.nil)) (Take.nil _) ⟨rfl, rfl⟩

def degree_Can_B2 (l10 : (List Int)) (k19 : Nat) : Nat → Int → Option (Int) := fun k30 x25 =>
 ck (k30 + ((k19 + 1) + 0) < l10.length) <|
 ck (InI (x25 + (min (l10.getD (k30 + ((k19 + 1) + 0)) (0 : Int)) (((k19 + 1) : Nat) : Int)))) <|
 some (x25 + (min (l10.getD (k30 + ((k19 + 1) + 0)) (0 : Int)) (((k19 + 1) : Nat) : Int)))
def degree_Can_B1 (r4 : (List Int)) (l10 : (List Int)) : Nat → Int → Option (Ct (Int) (Bool × Int)) := fun k19 x14 =>
 ck (InI (x14 + (l10.getD k19 (0 : Int)))) <|
 ck (InI (((k19 : Nat) : Int) * (((k19 + 1) : Nat) : Int))) <|
 ck ((k19 + 1) ≤ r4.length) <|
 (forN (degree_Can_B2 l10 k19) (r4.length - (k19 + 1)) 0 (((k19 : Nat) : Int) * (((k19 + 1) : Nat) : Int))).bind fun x29 =>
 if x29 < (x14 + (l10.getD k19 (0 : Int))) then
  some (.ret (false, 0))
 else
  some (.go (x14 + (l10.getD k19 (0 : Int))))
def degree_Can_F (l : (List Int)) : Option (Bool × Int) :=
 (degree_Check_F l).bind fun r1 =>
 if r1 ≠ 0 then
  some (false, r1)
 else
  (slices_Clone_int_F l).bind fun r4 =>
  (slices_Sort_int_F r4).bind fun l7 =>
  ck (l7.length = r4.length) <|
  (slices_Reverse_int_F l7).bind fun l10 =>
  ck (l10.length = r4.length) <|
  (forC (degree_Can_B1 r4 l10) r4.length 0 0).bind fun q => match q with
  | .go x18 =>
   some ((decide ((Int.tmod x18 2) = 0)), 0)
  | .ret x => some x
def degree_Can_P (out : Bool × Int) (d : D) (H : List HL) : Prop := d = .tp 2 (nth [.v (.bool out.1), .v (.int .i64 out.2)]) ∧ H = []
theorem degree_Can_I (out : Bool × Int) : IndepP (degree_Can_P out) := IndepP.of (by rintro _ _ ⟨rfl, rfl⟩; exact ⟨inferInstance, inferInstance⟩)
set_option maxRecDepth 100000 in
set_option maxHeartbeats 4000000 in
theorem degree_Can_spec (l : (List Int)) {out : Bool × Int} (H : degree_Can_F l = some out) : Does Try.prog 56 [slD l] [] (degree_Can_P out) := by
 unfold degree_Can_F at H
 refine Does.intro Try.func56 rfl Try.ntmps56 rfl fun w0 I0 => ?_
 refine GoC.seq ?_
 refine GoC.region ?_
 refine GoO.pure (ps_assign rfl rfl) ?_
 refine GoO.pure (ps_assign rfl rfl) ?_
 refine GoO.nil ?_
 refine GoK.code ?_
 refine GoC.seq ?_
 refine GoC.seq ?_
 refine GoC.region ?_
 refine GoO.pure (ps_move rfl rfl) ?_
 have hb := bind_l H; clear H
 obtain ⟨r1, e2, H⟩ := hb
 refine GoO.effC (ef_call rfl (Take.nil _) (Take.nil _) (degree_Check_spec l e2) (LendL.cons (Lend.refl _ _) (LendL.nil)) rfl (degree_Check_I (r1))) (fun rr HH hp => ?_)
 obtain ⟨rfl, rfl⟩ := hp
 refine GoO.pure (ps_assign rfl rfl) ?_
 refine GoO.nil ?_
 refine GoK.code ?_
 refine GoC.seq ?_
 refine GoC.region ?_
 refine GoO.pure (ps_move rfl rfl) ?_
 refine GoO.pure (ps_neq rfl rfl rfl) ?_
 refine GoO.nil ?_
 refine GoK.code ?_
 refine GoC.condD rfl (fun h3 => ?_) (fun h3 => ?_)
 replace H := ite_t h3 H
 refine GoC.seq ?_
 refine GoC.region ?_
 refine GoO.pure (ps_move rfl rfl) ?_
 refine GoO.pure (ps_assign rfl rfl) ?_
 refine GoO.pure (ps_assign rfl rfl) ?_
 refine GoO.nil ?_
 refine GoK.code ?_
 obtain rfl := Option.some.inj H
 exact GoC.retL (ds := [.v (.bool false), .v (.int .i64 r1)]) Try.results56 (ResL.cons (ResD.tmp rfl) (ResL.cons (ResD.tmp rfl) (ResL.nil))) (Take.nil _) ⟨rfl, rfl⟩
 replace H := ite_f h3 H
 refine GoC.skip ?_
 refine GoK.code ?_
 refine GoC.seq ?_
 refine GoC.region ?_
 refine GoO.pure (ps_move rfl rfl) ?_
 have hb := bind_l H; clear H
 obtain ⟨r4, e6, H⟩ := hb
 refine GoO.effC (ef_call rfl (Take.nil _) (Take.nil _) (slices_Clone_int_spec l e6) (LendL.cons (Lend.refl _ _) (LendL.nil)) rfl (slices_Clone_int_I (r4))) (fun rr HH hp => ?_)
 obtain ⟨β5, rfl, rfl⟩ := hp
 refine GoO.pure (ps_assign rfl rfl) ?_
 refine GoO.nil ?_
 refine GoK.code ?_
 refine GoC.seq ?_
 refine GoC.region ?_
 refine GoO.pure (ps_move rfl rfl) ?_
 have hb := bind_l H; clear H
 obtain ⟨l7, e8, H⟩ := hb
 have c9 := ck_l H; replace H := ck_r H
 refine GoO.effC (ef_call rfl (Take.cons _ _ _ _ _ Rem.p0 (Take.nil _)) (Take.nil _) (slices_Sort_int_spec r4 β5 e8) (LendL.cons (Lend.refl _ _) (LendL.nil)) rfl (slices_Sort_int_I (l7) β5)) (fun rr HH hp => ?_)
 obtain ⟨rfl, rfl⟩ := hp
 refine GoO.nil ?_
 refine GoK.code ?_
 refine GoC.seq ?_
 refine GoC.region ?_
 refine GoO.pure (ps_move rfl rfl) ?_
 have hb := bind_l H; clear H
 obtain ⟨l10, e11, H⟩ := hb
 have c12 := ck_l H; replace H := ck_r H
 refine GoO.effC (ef_call rfl (Take.cons _ _ _ _ _ Rem.p0 (Take.nil _)) (Take.nil _) (slices_Reverse_int_spec l7 β5 e11) (LendL.cons (Lend.ofLe (DLe.len (by first | rfl | omega | (simp only [subl_length, cpl_length, List.length_set, List.length_append, List.length_cons, List.length_nil, List.length_replicate, row_len, c9] <;> first | rfl | omega)))) (LendL.nil)) rfl (slices_Reverse_int_I (l10) β5)) (fun rr HH hp => ?_)
 obtain ⟨rfl, rfl⟩ := hp
 refine GoO.nil ?_
 refine GoK.code ?_
 refine GoC.seq ?_
 refine GoC.region ?_
 refine GoO.pure (ps_assign rfl rfl) ?_
 refine GoO.nil ?_
 refine GoK.code ?_
 refine GoC.seq ?_
 refine GoC.seq ?_
 refine GoC.region ?_
 refine GoO.pure (ps_move rfl rfl) ?_
 refine GoO.pure (ps_len rfl (by constructor) rfl) ?_
 refine GoO.lenLe (n := r4.length) (x := .tmp 23) rfl (by constructor) own_lenLe (fun ml13 => ?_)
 refine GoO.pure (ps_move rfl rfl) ?_
 refine GoO.nil ?_
 refine GoK.code ?_
 have hb := bind_l H; clear H
 obtain ⟨q17, hl36, HK15⟩ := hb
 refine GoC.blockJ [] [.one β5 3 1 (row l10)] (fun v h => ∃ (x18 : Int), q17 = .go x18 ∧ v = [(6, .v (.int .i64 x18))] ∧ h = []) ?_ ?_
 refine GoC.loopJ [(5, _), (23, _), (24, _)] [.one β5 3 1 (row l10)] (fun mQ v h => ∃ (k19 : Nat) (x14 : Int), (k19 + mQ = r4.length ∧ forC (degree_Can_B1 r4 l10) mQ k19 x14 = some q17) ∧ v = [(25, .v (.int .i64 ((k19 : Nat) : Int))), (6, .v (.int .i64 x14))] ∧ h = []) r4.length ⟨_, _, ⟨by omega, hl36⟩, rfl, rfl⟩ (EnvD.eq rfl (EnvD.eq rfl (EnvD.eq rfl (EnvD.eq rfl (EnvD.eq rfl (EnvD.nil)))))) (TkD.cons _ _ _ _ _ Rem.p0 (HLe.refl _) (TkD.nil _)) ?_
 rintro m20 v h ⟨k19, x14, ⟨hkk19, hF16⟩, rfl, rfl⟩
 refine GoC.seq ?_
 refine GoC.region ?_
 refine GoO.pure (ps_lss rfl rfl rfl) ?_
 refine GoO.nil ?_
 refine GoK.code ?_
 refine GoC.seq ?_
 refine GoC.condD rfl (fun (hk19 : (k19 : Int) < ((r4.length : Nat) : Int)) => ?_) (fun (hk19 : ¬ (k19 : Int) < ((r4.length : Nat) : Int)) => ?_)
 obtain ⟨m20', rfl⟩ : ∃ x, m20 = x + 1 := ⟨m20 - 1, by omega⟩
 have hb := bind_l hF16; clear hF16
 obtain ⟨qrm20, H, hF16⟩ := hb
 have hnk19 : k19 < r4.length := by omega
 have hIk19 : InI ((k19 : Int) + 1) := inI_len hk19 ml13
 refine GoC.skip ?_
 refine GoK.code ?_
 refine GoC.seq ?_
 refine GoC.block ?_
 refine GoC.seq ?_
 refine GoC.region ?_
 refine GoO.pure (ps_move rfl rfl) ?_
 refine GoO.pure (ps_indexAddr0N rfl rfl hnk19 rfl) ?_
 refine GoO.pure (ps_load rfl At.p0 At.p0 (lt_len hnk19 (by first | rfl | omega | (simp only [row_len, gridC_len, rowO_len, c9, c12] <;> first | rfl | omega))) rfl rfl) ?_
 refine GoO.pure (ps_assign rfl rfl) ?_
 refine GoO.pure (ps_assign rfl rfl) ?_
 refine GoO.nil ?_
 refine GoK.code ?_
 refine GoC.seq ?_
 refine GoC.region ?_
 refine GoO.pure (ps_move rfl rfl) ?_
 refine GoO.pure (ps_move rfl rfl) ?_
 have c21 := ck_l H; replace H := ck_r H
 refine GoO.pure (ps_add rfl rfl rfl c21) ?_
 refine GoO.pure (ps_assign rfl rfl) ?_
 refine GoO.nil ?_
 refine GoK.code ?_
 refine GoC.seq ?_
 refine GoC.region ?_
 refine GoO.pure (ps_move rfl rfl) ?_
 refine GoO.pure (ps_move rfl rfl) ?_
 refine GoO.pure (ps_add rfl rfl rfl hIk19) ?_
 have c22 := ck_l H; replace H := ck_r H
 refine GoO.pure (ps_mul rfl rfl rfl c22) ?_
 refine GoO.pure (ps_assign rfl rfl) ?_
 refine GoO.nil ?_
 refine GoK.code ?_
 refine GoC.seq ?_
 refine GoC.seq ?_
 refine GoC.region ?_
 refine GoO.pure (ps_move rfl rfl) ?_
 refine GoO.pure (ps_move rfl rfl) ?_
 refine GoO.pure (ps_add rfl rfl rfl hIk19) ?_
 have c23 := ck_l H; replace H := ck_r H
 refine GoO.pure (ps_slice rfl (Bd.nat _ _ (k19 + 1) _ rfl) (Bd.no _) c23 (Nat.le_refl _) rfl) ?_
 refine GoO.pure (ps_len rfl (by constructor) rfl) ?_
 refine GoO.lenLe (n := (r4.length - (k19 + 1))) (x := .tmp 40) rfl (by constructor) own_lenLe (fun ml24 => ?_)
 refine GoO.pure (ps_move rfl rfl) ?_
 refine GoO.nil ?_
 refine GoK.code ?_
 have hb := bind_l H; clear H
 obtain ⟨x29, hl34, HK26⟩ := hb
 refine GoC.blockJ [(5, .own β5 1 0 r4.length), (6, .v (.int .i64 (x14 + (l10.getD k19 (0 : Int))))), (23, .own β5 1 0 r4.length), (24, .v (.int .i64 ((r4.length : Nat) : Int))), (25, .v (.int .i64 ((k19 : Nat) : Int)))] [.one β5 3 1 (row l10)] (fun v h => v = [(9, .v (.int .i64 x29))] ∧ h = []) ?_ ?_
 refine GoC.loopJ [(5, _), (6, _), (7, _), (23, _), (24, _), (25, _), (40, _), (41, _)] [.one β5 3 1 (row l10)] (fun mQ v h => ∃ (k30 : Nat) (x25 : Int), (k30 + mQ = (r4.length - (k19 + 1)) ∧ forN (degree_Can_B2 l10 k19) mQ k30 x25 = some x29) ∧ v = [(42, .v (.int .i64 ((k30 : Nat) : Int))), (9, .v (.int .i64 x25))] ∧ h = []) (r4.length - (k19 + 1)) ⟨_, _, ⟨by omega, hl34⟩, rfl, rfl⟩ (EnvD.eq rfl (EnvD.eq rfl (EnvD.eq rfl (EnvD.eq rfl (EnvD.eq rfl (EnvD.eq rfl (EnvD.eq rfl (EnvD.eq rfl (EnvD.eq rfl (EnvD.eq rfl (EnvD.nil))))))))))) (TkD.cons _ _ _ _ _ Rem.p0 (HLe.refl _) (TkD.nil _)) ?_
 rintro m31 v h ⟨k30, x25, ⟨hkk30, hF27⟩, rfl, rfl⟩
 refine GoC.seq ?_
 refine GoC.region ?_
 refine GoO.pure (ps_lss rfl rfl rfl) ?_
 refine GoO.nil ?_
 refine GoK.code ?_
 refine GoC.seq ?_
 refine GoC.condD rfl (fun (hk30 : (k30 : Int) < (((r4.length - (k19 + 1)) : Nat) : Int)) => ?_) (fun (hk30 : ¬ (k30 : Int) < (((r4.length - (k19 + 1)) : Nat) : Int)) => ?_)
 obtain ⟨m31', rfl⟩ : ∃ x, m31 = x + 1 := ⟨m31 - 1, by omega⟩
 have hb := bind_l hF27; clear hF27
 obtain ⟨qrm31, H, hF27⟩ := hb
 have hnk30 : k30 < (r4.length - (k19 + 1)) := by omega
 have hIk30 : InI ((k30 : Int) + 1) := inI_len hk30 ml24
 refine GoC.skip ?_
 refine GoK.code ?_
 refine GoC.seq ?_
 refine GoC.block ?_
 refine GoC.seq ?_
 refine GoC.region ?_
 refine GoO.pure (ps_indexAddrN rfl rfl hnk30 rfl) ?_
 have c32 := ck_l H; replace H := ck_r H
 refine GoO.pure (ps_load rfl At.p0 At.p0 (by first | exact c32 | (have hc := c32; simp only [row_len, gridC_len, rowO_len, c9, c12] at hc ⊢; omega)) rfl rfl) ?_
 refine GoO.pure (ps_assign rfl rfl) ?_
 refine GoO.nil ?_
 refine GoK.code ?_
 refine GoC.region ?_
 refine GoO.pure (ps_move rfl rfl) ?_
 refine GoO.pure (ps_move rfl rfl) ?_
 refine GoO.pure (ps_move rfl rfl) ?_
 refine GoO.pure (ps_add rfl rfl rfl hIk19) ?_
 refine GoO.pure (ps_min rfl rfl rfl) ?_
 have c33 := ck_l H; replace H := ck_r H
 refine GoO.pure (ps_add rfl rfl rfl c33) ?_
 refine GoO.pure (ps_assign rfl rfl) ?_
 refine GoO.nil ?_
 refine GoK.blk ?_
 refine GoK.code ?_
 refine GoC.region ?_
 refine GoO.pure (ps_add rfl rfl rfl hIk30) ?_
 refine GoO.pure (ps_move rfl rfl) ?_
 refine GoO.nil ?_
 obtain rfl := Option.some.inj H
 exact GoK.againJ m31' (by omega) ⟨_, _, ⟨by omega, hF27⟩, rfl, rfl⟩ (EnvD.eq rfl (EnvD.eq rfl (EnvD.eq rfl (EnvD.eq rfl (EnvD.eq rfl (EnvD.eq rfl (EnvD.eq rfl (EnvD.eq rfl (EnvD.eq rfl (EnvD.eq rfl (EnvD.nil))))))))))) (TkD.cons _ _ _ _ _ Rem.p0 (HLe.refl _) (TkD.nil _))
 obtain rfl : m31 = 0 := by omega
 refine GoC.exit rfl ?_
 cases hF27
 exact GoK.meet ⟨rfl, rfl⟩ (EnvD.eq rfl (EnvD.cons rfl (DLe.len (by first | rfl | omega | (simp only [row_len, gridC_len, rowO_len, c9, c12] <;> first | rfl | omega))) (EnvD.eq rfl (EnvD.cons rfl (DLe.len (by first | rfl | omega | (simp only [row_len, gridC_len, rowO_len, c9, c12] <;> first | rfl | omega))) (EnvD.eq rfl (EnvD.eq rfl (EnvD.nil))))))) (TkD.cons _ _ _ _ _ Rem.p0 (HLe.refl _) (TkD.nil _))
 rintro v h ⟨rfl, rfl⟩
 have H := HK26; clear HK26
 refine GoK.code ?_
 refine GoC.seq ?_
 refine GoC.region ?_
 refine GoO.pure (ps_move rfl rfl) ?_
 refine GoO.pure (ps_move rfl rfl) ?_
 refine GoO.pure (ps_gtr rfl rfl rfl) ?_
 refine GoO.nil ?_
 refine GoK.code ?_
 refine GoC.condD rfl (fun h35 => ?_) (fun h35 => ?_)
 replace H := ite_t h35 H
 refine GoC.seq ?_
 refine GoC.region ?_
 refine GoO.pure (ps_assign rfl rfl) ?_
 refine GoO.pure (ps_assign rfl rfl) ?_
 refine GoO.nil ?_
 refine GoK.code ?_
 obtain rfl := Option.some.inj H
 obtain rfl := Option.some.inj hF16
 obtain rfl := Option.some.inj HK15
 exact GoC.retL (ds := [.v (.bool false), .v (.int .i64 0)]) Try.results56 (ResL.cons (ResD.tmp rfl) (ResL.cons (ResD.tmp rfl) (ResL.nil))) (Take.nil _) ⟨rfl, rfl⟩
 replace H := ite_f h35 H
 refine GoC.skip ?_
 refine GoK.blk ?_
 refine GoK.code ?_
 refine GoC.region ?_
 refine GoO.pure (ps_add rfl rfl rfl hIk19) ?_
 refine GoO.pure (ps_move rfl rfl) ?_
 refine GoO.nil ?_
 obtain rfl := Option.some.inj H
 exact GoK.againJ m20' (by omega) ⟨_, _, ⟨by omega, hF16⟩, rfl, rfl⟩ (EnvD.eq rfl (EnvD.eq rfl (EnvD.eq rfl (EnvD.eq rfl (EnvD.eq rfl (EnvD.nil)))))) (TkD.cons _ _ _ _ _ Rem.p0 (HLe.refl _) (TkD.nil _))
 obtain rfl : m20 = 0 := by omega
 refine GoC.exit rfl ?_
 cases hF16
 exact GoK.meet ⟨_, rfl, rfl, rfl⟩ (EnvD.eq rfl (EnvD.nil)) (TkD.cons _ _ _ _ _ Rem.p0 (HLe.refl _) (TkD.nil _))
 rintro v h ⟨x18, rfl, rfl, rfl⟩
 have H := HK15; clear HK15
 refine GoK.code ?_
 refine GoC.seq ?_
 refine GoC.region ?_
 refine GoO.pure (ps_move rfl rfl) ?_
 refine GoO.pure (ps_rem rfl rfl rfl (by decide)) ?_
 refine GoO.pure (ps_eql rfl rfl rfl) ?_
 refine GoO.pure (ps_assign rfl rfl) ?_
 refine GoO.pure (ps_assign rfl rfl) ?_
 refine GoO.nil ?_
 refine GoK.code ?_
 obtain rfl := Option.some.inj H
 exact GoC.retL (ds := [.v (.bool (decide ((Int.tmod x18 2) = 0))), .v (.int .i64 0)]) Try.results56 (ResL.cons (ResD.tmp rfl) (ResL.cons (ResD.tmp rfl) (ResL.nil))) (Take.nil _) ⟨rfl, rfl⟩

def degree_Make_c1_F (p0 : Int) (p1 : Int) (c_0 : (List Int)) : Option (Int) :=
 ck (0 ≤ p1 ∧ p1 < ((c_0.length : Nat) : Int)) <|
 ck (0 ≤ p0 ∧ p0 < ((c_0.length : Nat) : Int)) <|
 (cmp_Compare_int_F (c_0.getD p1.toNat (0 : Int)) (c_0.getD p0.toNat (0 : Int))).bind fun r3 =>
 (cmp_Compare_int_F p0 p1).bind fun r5 =>
 (cmp_Or_int_F ([r3, r5] : List Int)).bind fun r8 =>
 some r8
def degree_Make_c1_P (out : Int) (d : D) (H : List HL) : Prop := d = .v (.int .i64 out) ∧ H = []
theorem degree_Make_c1_I (out : Int) : IndepP (degree_Make_c1_P out) := IndepP.of (by rintro _ _ ⟨rfl, rfl⟩; exact ⟨inferInstance, inferInstance⟩)
set_option maxRecDepth 100000 in
set_option maxHeartbeats 4000000 in
theorem degree_Make_c1_spec (p0 : Int) (p1 : Int) (c_0 : (List Int)) {out : Int} (H : degree_Make_c1_F p0 p1 c_0 = some out) : Does Try.prog 57 [.v (.int .i64 p0), .v (.int .i64 p1), .rp 1 1 (row [c_0]).get 0 0] [] (degree_Make_c1_P out) := by
 unfold degree_Make_c1_F at H
 refine Does.intro Try.func57 rfl Try.ntmps57 rfl fun w0 I0 => ?_
 refine GoC.seq ?_
 refine GoC.region ?_
 refine GoO.pure (ps_assign rfl rfl) ?_
 refine GoO.nil ?_
 refine GoK.code ?_
 refine GoC.seq ?_
 refine GoC.drawA (.q 0 (.q 1 (.q 2 (.q 3 (.q 4 (.q 5 (.q 6 (.q 7 (.q 9 (.q 10 (.one 8 (.one 11 (.one 12 (.one 13 (.q 14 (.done)))))))))))))))) follows (by kernel_rfl) ?_
 refine GoP.qN rfl (ps_loadR rfl Nat.zero_lt_one rfl rfl) ?_
 refine GoP.qN rfl (ps_move rfl rfl) ?_
 have c1 := ck_l H; replace H := ck_r H
 refine GoP.qN rfl (ps_indexAddrR rfl rfl c1 rfl) ?_
 refine GoP.qN rfl (ps_loadR rfl (idx_lt c1) rfl rfl) ?_
 refine GoP.qN rfl (ps_loadR rfl Nat.zero_lt_one rfl rfl) ?_
 refine GoP.qN rfl (ps_move rfl rfl) ?_
 have c2 := ck_l H; replace H := ck_r H
 refine GoP.qN rfl (ps_indexAddrR rfl rfl c2 rfl) ?_
 refine GoP.qN rfl (ps_loadR rfl (idx_lt c2) rfl rfl) ?_
 refine GoP.qN rfl (ps_move rfl rfl) ?_
 refine GoP.qN rfl (ps_move rfl rfl) ?_
 have hb := bind_l H; clear H
 obtain ⟨r3, e4, H⟩ := hb
 refine GoP.oneC rfl trivial (ef_call rfl (Take.nil _) (Take.nil _) (cmp_Compare_int_spec (c_0.getD p1.toNat (0 : Int)) (c_0.getD p0.toNat (0 : Int)) e4) (LendL.cons (Lend.refl _ _) (LendL.cons (Lend.refl _ _) (LendL.nil))) rfl (cmp_Compare_int_I (r3))) (Take.nil _) (fun rr HH hp => ?_)
 obtain ⟨rfl, rfl⟩ := hp
 have hb := bind_l H; clear H
 obtain ⟨r5, e6, H⟩ := hb
 refine GoP.oneC rfl trivial (ef_call rfl (Take.nil _) (Take.nil _) (cmp_Compare_int_spec p0 p1 e6) (LendL.cons (Lend.refl _ _) (LendL.cons (Lend.refl _ _) (LendL.nil))) rfl (cmp_Compare_int_I (r5))) (Take.nil _) (fun rr HH hp => ?_)
 obtain ⟨rfl, rfl⟩ := hp
 refine GoP.oneB rfl trivial (ef_buildSlice (row ([r3, r5] : List Int)) rfl (Parts.cons _ _ _ _ _ _ _ _ ⟨rfl, rfl⟩ (Part.one _ rfl rfl) rfl rfl (Parts.cons _ _ _ _ _ _ _ _ ⟨rfl, rfl⟩ (Part.one _ rfl rfl) rfl rfl (Parts.nil _))) rfl rfl rfl rfl) (Take.nil _) (fun β7 => ?_)
 have hb := bind_l H; clear H
 obtain ⟨r8, e9, H⟩ := hb
 refine GoP.oneC rfl trivial (ef_call rfl (Take.nil _) (Take.cons _ _ _ _ _ Rem.p0 (Take.nil _)) (cmp_Or_int_spec ([r3, r5] : List Int) e9) (LendL.cons (Lend.all' At.p0 (by first | rfl | omega | (simp only [subl_length, cpl_length, List.length_set, List.length_append, List.length_cons, List.length_nil, List.length_replicate, row_len] <;> first | rfl | omega)) rfl) (LendL.nil)) rfl (cmp_Or_int_I (r8))) (Take.nil _) (fun rr HH hp => ?_)
 obtain ⟨rfl, rfl⟩ := hp
 refine GoP.qN rfl (ps_assign rfl rfl) ?_
 refine GoP.done ?_
 refine GoK.code ?_
 obtain rfl := Option.some.inj H
 exact GoC.retL (ds := [.v (.int .i64 r8)]) Try.results57 (ResL.cons (ResD.tmp rfl) (ResL.nil)) (Take.nil _) ⟨rfl, rfl⟩

def slices_insertionSortCmpFunc_int_degree_Make_c1_B2 (p1 : Int) (c3_0 : (List Int)) : ((List Int) × Int) → Option (Ct ((List Int) × Int) (Ct ((List Int) × Int) ((List Int)))) := fun (l11, x12) =>
 if p1 < x12 then
  ck (0 ≤ x12 ∧ x12 < ((l11.length : Nat) : Int)) <|
  ck (InI (x12 - 1)) <|
  ck (0 ≤ (x12 - 1) ∧ (x12 - 1) < ((l11.length : Nat) : Int)) <|
  (degree_Make_c1_F (l11.getD x12.toNat (0 : Int)) (l11.getD ((x12 - 1).toNat) (0 : Int)) c3_0).bind fun r23 =>
  if r23 < 0 then
   some (.go (((l11.set x12.toNat (l11.getD ((x12 - 1).toNat) (0 : Int))).set ((x12 - 1).toNat) (l11.getD x12.toNat (0 : Int))), (x12 - 1)))
  else
   some (.brk (l11, x12))
 else
  some (.brk (l11, x12))
def slices_insertionSortCmpFunc_int_degree_Make_c1_B1 (p1 : Int) (p2 : Int) (c3_0 : (List Int)) : ((List Int) × Int) → Option (Ct ((List Int) × Int) ((List Int))) := fun (l2, x3) =>
 if x3 < p2 then
  (loopC (slices_insertionSortCmpFunc_int_degree_Make_c1_B2 p1 c3_0) 1000000 (l2, x3)).bind fun q => match q with
  | .go (l16, x17) =>
   ck (InI (x3 + 1)) <|
   some (.go (l16, (x3 + 1)))
  | .ret x => some x
 else
  some (.brk (l2, x3))
def slices_insertionSortCmpFunc_int_degree_Make_c1_F (p0 : (List Int)) (p1 : Int) (p2 : Int) (c3_0 : (List Int)) : Option ((List Int)) :=
 ck (InI (p1 + 1)) <|
 (loopC (slices_insertionSortCmpFunc_int_degree_Make_c1_B1 p1 p2 c3_0) 1000000 (p0, (p1 + 1))).bind fun q => match q with
 | .go (l7, x8) =>
  some l7
 | .ret x => some x
def slices_insertionSortCmpFunc_int_degree_Make_c1_P (out : (List Int)) (βp0 : BK) (d : D) (H : List HL) : Prop := d = .tp 0 (nth []) ∧ H = [.one βp0 3 1 (row out)]
theorem slices_insertionSortCmpFunc_int_degree_Make_c1_I (out : (List Int)) (βp0 : BK) : IndepP (slices_insertionSortCmpFunc_int_degree_Make_c1_P out βp0) := IndepP.of (by rintro _ _ ⟨rfl, rfl⟩; exact ⟨inferInstance, inferInstance⟩)
set_option maxRecDepth 100000 in
set_option maxHeartbeats 4000000 in
theorem slices_insertionSortCmpFunc_int_degree_Make_c1_spec (p0 : (List Int)) (p1 : Int) (p2 : Int) (c3_0 : (List Int)) (βp0 : BK) {out : (List Int)} (H : slices_insertionSortCmpFunc_int_degree_Make_c1_F p0 p1 p2 c3_0 = some out) : Does Try.prog 92 [.own βp0 1 0 p0.length, .v (.int .i64 p1), .v (.int .i64 p2), .fn 57 1 (nth [.rp 1 1 (row [c3_0]).get 0 0])] [.one βp0 3 1 (row p0)] (slices_insertionSortCmpFunc_int_degree_Make_c1_P out βp0) := by
 unfold slices_insertionSortCmpFunc_int_degree_Make_c1_F at H
 refine Does.intro Try.func92 rfl Try.ntmps92 rfl fun w0 I0 => ?_
 refine GoC.seq ?_
 refine GoC.region ?_
 refine GoO.pure (ps_move rfl rfl) ?_
 have c1 := ck_l H; replace H := ck_r H
 refine GoO.pure (ps_add rfl rfl rfl c1) ?_
 refine GoO.pure (ps_assign rfl rfl) ?_
 refine GoO.nil ?_
 refine GoK.code ?_
 have hb := bind_l H; clear H
 obtain ⟨q6, hl28, HK4⟩ := hb
 refine GoC.blockJ [] [] (fun v h => ∃ (l7 : (List Int)) (x8 : Int), q6 = .go (l7, x8) ∧ v = [] ∧ h = [.one βp0 3 1 (row l7)]) ?_ ?_
 refine GoC.loopJ [(1, _), (2, _), (3, _)] [] (fun mQ v h => ∃ (l2 : (List Int)) (x3 : Int), loopC (slices_insertionSortCmpFunc_int_degree_Make_c1_B1 p1 p2 c3_0) mQ (l2, x3) = some q6 ∧ v = [(0, .own βp0 1 0 l2.length), (8, .v (.int .i64 x3))] ∧ h = [.one βp0 3 1 (row l2)]) 1000000 ⟨_, _, hl28, rfl, rfl⟩ (EnvD.cons rfl (DLe.len (by first | rfl | omega | (simp only [row_len, gridC_len, rowO_len] <;> first | rfl | omega))) (EnvD.eq rfl (EnvD.eq rfl (EnvD.eq rfl (EnvD.eq rfl (EnvD.nil)))))) (TkD.cons _ _ _ _ _ Rem.p0 (HLe.refl _) (TkD.nil _)) ?_
 rintro m9 v h ⟨l2, x3, hF5, rfl, rfl⟩
 obtain ⟨m9', rfl⟩ | rfl : (∃ x, m9 = x + 1) ∨ m9 = 0 := by cases m9 <;> simp
 case inr => cases hF5
 have hb := bind_l hF5; clear hF5
 obtain ⟨qrm9, H, hF5⟩ := hb
 refine GoC.seq ?_
 refine GoC.seq ?_
 refine GoC.region ?_
 refine GoO.pure (ps_move rfl rfl) ?_
 refine GoO.pure (ps_move rfl rfl) ?_
 refine GoO.pure (ps_lss rfl rfl rfl) ?_
 refine GoO.nil ?_
 refine GoK.code ?_
 refine GoC.condD rfl (fun h10 => ?_) (fun h10 => ?_)
 replace H := ite_t h10 H
 refine GoC.skip ?_
 refine GoK.code ?_
 refine GoC.seq ?_
 refine GoC.block ?_
 refine GoC.seq ?_
 refine GoC.region ?_
 refine GoO.pure (ps_move rfl rfl) ?_
 refine GoO.pure (ps_assign rfl rfl) ?_
 refine GoO.nil ?_
 refine GoK.code ?_
 have hb := bind_l H; clear H
 obtain ⟨q15, hl26, HK13⟩ := hb
 refine GoC.blockJ [(1, .v (.int .i64 p1)), (2, .v (.int .i64 p2)), (3, .fn 57 1 (nth [.rp 1 1 (row [c3_0]).get 0 0])), (8, .v (.int .i64 x3))] [] (fun v h => ∃ (l16 : (List Int)) (x17 : Int), q15 = .go (l16, x17) ∧ v = [(0, .own βp0 1 0 l16.length)] ∧ h = [.one βp0 3 1 (row l16)]) ?_ ?_
 refine GoC.loopJ [(1, _), (2, _), (3, _), (8, _)] [] (fun mQ v h => ∃ (l11 : (List Int)) (x12 : Int), loopC (slices_insertionSortCmpFunc_int_degree_Make_c1_B2 p1 c3_0) mQ (l11, x12) = some q15 ∧ v = [(0, .own βp0 1 0 l11.length), (9, .v (.int .i64 x12))] ∧ h = [.one βp0 3 1 (row l11)]) 1000000 ⟨_, _, hl26, rfl, rfl⟩ (EnvD.cons rfl (DLe.len (by first | rfl | omega | (simp only [row_len, gridC_len, rowO_len] <;> first | rfl | omega))) (EnvD.eq rfl (EnvD.eq rfl (EnvD.eq rfl (EnvD.eq rfl (EnvD.eq rfl (EnvD.nil))))))) (TkD.cons _ _ _ _ _ Rem.p0 (HLe.refl _) (TkD.nil _)) ?_
 rintro m18 v h ⟨l11, x12, hF14, rfl, rfl⟩
 obtain ⟨m18', rfl⟩ | rfl : (∃ x, m18 = x + 1) ∨ m18 = 0 := by cases m18 <;> simp
 case inr => cases hF14
 have hb := bind_l hF14; clear hF14
 obtain ⟨qrm18, H, hF14⟩ := hb
 refine GoC.seq ?_
 refine GoC.seq ?_
 refine GoC.drawA (.q 0 (.q 1 (.q 2 (.q 3 (.q 4 (.q 5 (.q 6 (.q 7 (.q 8 (.q 9 (.q 10 (.q 11 (.q 12 (.q 13 (.one 14 (.q 15 (.q 16 (.done)))))))))))))))))) follows (by kernel_rfl) ?_
 refine GoP.qN rfl (ps_move rfl rfl) ?_
 refine GoP.qN rfl (ps_move rfl rfl) ?_
 refine GoP.qN rfl (ps_gtr rfl rfl rfl) ?_
 refine GoP.qN rfl (ps_move rfl rfl) ?_
 refine GoP.decideD 21 rfl (fun h19 => ?_) (fun h19 => ?_)
 replace H := ite_t h19 H
 refine GoP.qT rfl rfl rfl rfl (ps_move rfl rfl) ?_
 refine GoP.qT rfl rfl rfl rfl (ps_move rfl rfl) ?_
 refine GoP.qT rfl rfl rfl rfl (ps_move rfl rfl) ?_
 have c20 := ck_l H; replace H := ck_r H
 refine GoP.qT rfl rfl rfl rfl (ps_indexAddr0 rfl rfl c20 rfl) ?_
 refine GoP.qT rfl rfl rfl rfl (ps_load rfl At.p0 At.p0 (idx_lt c20) rfl rfl) ?_
 refine GoP.qT rfl rfl rfl rfl (ps_move rfl rfl) ?_
 refine GoP.qT rfl rfl rfl rfl (ps_move rfl rfl) ?_
 have c21 := ck_l H; replace H := ck_r H
 refine GoP.qT rfl rfl rfl rfl (ps_sub rfl rfl rfl c21) ?_
 have c22 := ck_l H; replace H := ck_r H
 refine GoP.qT rfl rfl rfl rfl (ps_indexAddr0 rfl rfl c22 rfl) ?_
 refine GoP.qT rfl rfl rfl rfl (ps_load rfl At.p0 At.p0 (idx_lt c22) rfl rfl) ?_
 have hb := bind_l H; clear H
 obtain ⟨r23, e24, H⟩ := hb
 refine GoP.oneC rfl ⟨_, rfl, rfl, rfl⟩ (ef_callv rfl rfl rfl (Take.nil _) (Take.nil _) (degree_Make_c1_spec (l11.getD x12.toNat (0 : Int)) (l11.getD ((x12 - 1).toNat) (0 : Int)) c3_0 e24) (LendL.cons (Lend.refl _ _) (LendL.cons (Lend.refl _ _) (LendL.cons (Lend.refl _ _) (LendL.nil)))) rfl (degree_Make_c1_I (r23))) (Take.cons _ _ _ _ _ Rem.p0 (Take.nil _)) (fun rr HH hp => ?_)
 obtain ⟨rfl, rfl⟩ := hp
 refine GoP.qT rfl rfl rfl rfl (ps_lss rfl rfl rfl) ?_
 refine GoP.qN rfl (ps_pickT rfl rfl rfl) ?_
 refine GoP.done ?_
 refine GoK.code ?_
 refine GoC.condD rfl (fun h25 => ?_) (fun h25 => ?_)
 replace H := ite_t h25 H
 refine GoC.skip ?_
 refine GoK.code ?_
 refine GoC.seq ?_
 refine GoC.block ?_
 refine GoC.drawP (.q 0 (.q 1 (.q 2 (.q 3 (.q 4 (.q 5 (.q 6 (.q 7 (.q 8 (.q 10 (.q 11 (.q 12 (.two 9 13 (.one 13 (.q 14 (.one 15 (.q 16 (.one 17 (.done)))))) (.one 9 (.q 14 (.one 15 (.q 16 (.one 17 (.done))))))))))))))))))) [] follows (by kernel_rfl) (Take.nil _) ?_
 refine GoP.qN rfl (ps_move rfl rfl) ?_
 refine GoP.qN rfl (ps_move rfl rfl) ?_
 refine GoP.qN rfl (ps_move rfl rfl) ?_
 refine GoP.qN rfl (ps_move rfl rfl) ?_
 refine GoP.qN rfl (ps_sub rfl rfl rfl c21) ?_
 refine GoP.qN rfl (ps_move rfl rfl) ?_
 refine GoP.qN rfl (ps_move rfl rfl) ?_
 refine GoP.qN rfl (ps_sub rfl rfl rfl c21) ?_
 refine GoP.qN rfl (ps_indexAddr0 rfl rfl c22 rfl) ?_
 refine GoP.qN rfl (ps_move rfl rfl) ?_
 refine GoP.qN rfl (ps_move rfl rfl) ?_
 refine GoP.qN rfl (ps_indexAddr0 rfl rfl c20 rfl) ?_
 apply GoP.fork0
 exact rfl
 exact rfl
 exact trivial
 exact trivial
 exact Eff.pure (H1 := [.one βp0 3 1 (row l11)]) (ps_load rfl At.p0 At.p0 (idx_lt c22) rfl rfl)
 exact Eff.pure (H1 := [.one βp0 3 1 (row l11)]) (ps_load rfl At.p0 At.p0 (idx_lt c20) rfl rfl)
 exact (Take.nil _)
 exact (Take.nil _)
 intro hQ
 rintro _ rfl
 refine GoP.oneN rfl (ps_load rfl At.p0 At.p0 (idx_lt c20) rfl rfl) (Take.nil _) ?_
 refine GoP.qN rfl (ps_indexAddr0 rfl rfl c20 rfl) ?_
 refine GoP.one1 rfl trivial (ef_store rfl rfl rfl At.p0 (upd_row1 (v := (l11.getD ((x12 - 1).toNat) (0 : Int))) rfl) (idx_lt c20) rfl) (Take.cons _ _ _ _ _ Rem.p0 (Take.nil _)) ?_
 refine GoP.qN rfl (ps_indexAddr0 rfl rfl c22 rfl) ?_
 refine GoP.one1 rfl trivial (ef_store rfl rfl rfl At.p0 (upd_row1 (v := (l11.getD x12.toNat (0 : Int))) rfl) (lt_len (idx_lt c22) (by first | rfl | omega | (simp only [row_len, gridC_len, rowO_len, List.length_set] <;> first | rfl | omega))) rfl) (Take.cons _ _ _ _ _ Rem.p0 (Take.nil _)) ?_
 exact GoP.done (hQ)
 intro hQ
 rintro _ rfl
 refine GoP.oneN rfl (ps_load rfl At.p0 At.p0 (idx_lt c22) rfl rfl) (Take.nil _) ?_
 refine GoP.qN rfl (ps_indexAddr0 rfl rfl c20 rfl) ?_
 refine GoP.one1 rfl trivial (ef_store rfl rfl rfl At.p0 (upd_row1 (v := (l11.getD ((x12 - 1).toNat) (0 : Int))) rfl) (idx_lt c20) rfl) (Take.cons _ _ _ _ _ Rem.p0 (Take.nil _)) ?_
 refine GoP.qN rfl (ps_indexAddr0 rfl rfl c22 rfl) ?_
 refine GoP.one1 rfl trivial (ef_store rfl rfl rfl At.p0 (upd_row1 (v := (l11.getD x12.toNat (0 : Int))) rfl) (lt_len (idx_lt c22) (by first | rfl | omega | (simp only [row_len, gridC_len, rowO_len, List.length_set] <;> first | rfl | omega))) rfl) (Take.cons _ _ _ _ _ Rem.p0 (Take.nil _)) ?_
 refine GoP.done (GoK.le ?_ (hQ))
 refine Le.ofDW ?_ (TkD.cons _ _ _ _ _ Rem.p0 (HLe.refl _) (TkD.nil _))
 repeat (first | exact EnvLeW.nil | refine EnvLeW.cons rfl ?_ | refine EnvLeW.skip rfl ?_)
 refine GoK.blk ?_
 refine GoK.code ?_
 refine GoC.region ?_
 refine GoO.pure (ps_move rfl rfl) ?_
 refine GoO.pure (ps_sub rfl rfl rfl c21) ?_
 refine GoO.pure (ps_assign rfl rfl) ?_
 refine GoO.nil ?_
 obtain rfl := Option.some.inj H
 exact GoK.againJ m18' (by omega) ⟨_, _, hF14, rfl, rfl⟩ (EnvD.cons rfl (DLe.len (by first | rfl | omega | (simp only [row_len, gridC_len, rowO_len, List.length_set] <;> first | rfl | omega))) (EnvD.eq rfl (EnvD.eq rfl (EnvD.eq rfl (EnvD.eq rfl (EnvD.eq rfl (EnvD.nil))))))) (TkD.cons _ _ _ _ _ Rem.p0 (HLe.refl _) (TkD.nil _))
 replace H := ite_f h25 H
 refine GoC.exit rfl ?_
 obtain rfl := Option.some.inj H
 obtain rfl := Option.some.inj hF14
 exact GoK.meet ⟨_, _, rfl, rfl, rfl⟩ (EnvD.cons rfl (DLe.len (by first | rfl | omega | (simp only [row_len, gridC_len, rowO_len] <;> first | rfl | omega))) (EnvD.eq rfl (EnvD.eq rfl (EnvD.eq rfl (EnvD.eq rfl (EnvD.nil)))))) (TkD.cons _ _ _ _ _ Rem.p0 (HLe.refl _) (TkD.nil _))
 replace H := ite_f h19 H
 refine GoP.qF rfl rfl rfl rfl rfl ?_
 refine GoP.qF rfl rfl rfl rfl rfl ?_
 refine GoP.qF rfl rfl rfl rfl rfl ?_
 refine GoP.qF rfl rfl rfl rfl rfl ?_
 refine GoP.qF rfl rfl rfl rfl rfl ?_
 refine GoP.qF rfl rfl rfl rfl rfl ?_
 refine GoP.qF rfl rfl rfl rfl rfl ?_
 refine GoP.qF rfl rfl rfl rfl rfl ?_
 refine GoP.qF rfl rfl rfl rfl rfl ?_
 refine GoP.qF rfl rfl rfl rfl rfl ?_
 refine GoP.oneF rfl rfl rfl rfl rfl ?_
 refine GoP.qF rfl rfl rfl rfl rfl ?_
 refine GoP.qN rfl (ps_pickF rfl rfl rfl) ?_
 refine GoP.done ?_
 refine GoK.code ?_
 refine GoC.condF rfl ?_
 refine GoC.exit rfl ?_
 obtain rfl := Option.some.inj H
 obtain rfl := Option.some.inj hF14
 exact GoK.meet ⟨_, _, rfl, rfl, rfl⟩ (EnvD.cons rfl (DLe.len (by first | rfl | omega | (simp only [row_len, gridC_len, rowO_len] <;> first | rfl | omega))) (EnvD.eq rfl (EnvD.eq rfl (EnvD.eq rfl (EnvD.eq rfl (EnvD.nil)))))) (TkD.cons _ _ _ _ _ Rem.p0 (HLe.refl _) (TkD.nil _))
 rintro v h ⟨l16, x17, rfl, rfl, rfl⟩
 have H := HK13; clear HK13
 refine GoK.blk ?_
 refine GoK.code ?_
 refine GoC.region ?_
 refine GoO.pure (ps_move rfl rfl) ?_
 have c27 := ck_l H; replace H := ck_r H
 refine GoO.pure (ps_add rfl rfl rfl c27) ?_
 refine GoO.pure (ps_assign rfl rfl) ?_
 refine GoO.nil ?_
 obtain rfl := Option.some.inj H
 exact GoK.againJ m9' (by omega) ⟨_, _, hF5, rfl, rfl⟩ (EnvD.cons rfl (DLe.len (by first | rfl | omega | (simp only [row_len, gridC_len, rowO_len] <;> first | rfl | omega))) (EnvD.eq rfl (EnvD.eq rfl (EnvD.eq rfl (EnvD.eq rfl (EnvD.nil)))))) (TkD.cons _ _ _ _ _ Rem.p0 (HLe.refl _) (TkD.nil _))
 replace H := ite_f h10 H
 refine GoC.exit rfl ?_
 obtain rfl := Option.some.inj H
 obtain rfl := Option.some.inj hF5
 exact GoK.meet ⟨_, _, rfl, rfl, rfl⟩ (EnvD.nil) (TkD.cons _ _ _ _ _ Rem.p0 (HLe.refl _) (TkD.nil _))
 rintro v h ⟨l7, x8, rfl, rfl, rfl⟩
 have H := HK4; clear HK4
 obtain rfl := Option.some.inj H
 exact GoK.retL (ds := []) Try.results92 (ResL.nil) (Take.cons _ _ _ _ _ Rem.p0 (Take.nil _)) ⟨rfl, rfl⟩

def slices_siftDownCmpFunc_int_degree_Make_c1_B1 (p2 : Int) (p3 : Int) (c4_0 : (List Int)) : ((List Int) × Int) → Option (Ct ((List Int) × Int) ((List Int))) := fun (l1, x2) =>
 ck (InI (2 * x2)) <|
 ck (InI ((2 * x2) + 1)) <|
 if p2 ≤ ((2 * x2) + 1) then
  some (.brk (l1, x2))
 else
  ((
   ck (InI (((2 * x2) + 1) + 1)) <|
   if (((2 * x2) + 1) + 1) < p2 then
    ck (InI (p3 + ((2 * x2) + 1))) <|
    ck (0 ≤ (p3 + ((2 * x2) + 1)) ∧ (p3 + ((2 * x2) + 1)) < ((l1.length : Nat) : Int)) <|
    ck (InI ((p3 + ((2 * x2) + 1)) + 1)) <|
    ck (0 ≤ ((p3 + ((2 * x2) + 1)) + 1) ∧ ((p3 + ((2 * x2) + 1)) + 1) < ((l1.length : Nat) : Int)) <|
    (degree_Make_c1_F (l1.getD ((p3 + ((2 * x2) + 1)).toNat) (0 : Int)) (l1.getD (((p3 + ((2 * x2) + 1)) + 1).toNat) (0 : Int)) c4_0).bind fun r21 =>
    if r21 < 0 then
     some (((2 * x2) + 1) + 1)
    else
     some ((2 * x2) + 1)
   else
    some ((2 * x2) + 1)) : Option (Int)).bind fun x12 =>
  ck (InI (p3 + x2)) <|
  ck (0 ≤ (p3 + x2) ∧ (p3 + x2) < ((l1.length : Nat) : Int)) <|
  ck (InI (p3 + x12)) <|
  ck (0 ≤ (p3 + x12) ∧ (p3 + x12) < ((l1.length : Nat) : Int)) <|
  (degree_Make_c1_F (l1.getD ((p3 + x2).toNat) (0 : Int)) (l1.getD ((p3 + x12).toNat) (0 : Int)) c4_0).bind fun r28 =>
  if ¬ (r28 < 0) then
   some (.ret l1)
  else
   some (.go (((l1.set ((p3 + x2).toNat) (l1.getD ((p3 + x12).toNat) (0 : Int))).set ((p3 + x12).toNat) (l1.getD ((p3 + x2).toNat) (0 : Int))), x12))
def slices_siftDownCmpFunc_int_degree_Make_c1_F (p0 : (List Int)) (p1 : Int) (p2 : Int) (p3 : Int) (c4_0 : (List Int)) : Option ((List Int)) :=
 (loopC (slices_siftDownCmpFunc_int_degree_Make_c1_B1 p2 p3 c4_0) 1000000 (p0, p1)).bind fun q => match q with
 | .go (l6, x7) =>
  some l6
 | .ret x => some x
def slices_siftDownCmpFunc_int_degree_Make_c1_P (out : (List Int)) (βp0 : BK) (d : D) (H : List HL) : Prop := d = .tp 0 (nth []) ∧ H = [.one βp0 3 1 (row out)]
theorem slices_siftDownCmpFunc_int_degree_Make_c1_I (out : (List Int)) (βp0 : BK) : IndepP (slices_siftDownCmpFunc_int_degree_Make_c1_P out βp0) := IndepP.of (by rintro _ _ ⟨rfl, rfl⟩; exact ⟨inferInstance, inferInstance⟩)
set_option maxRecDepth 100000 in
set_option maxHeartbeats 4000000 in
theorem slices_siftDownCmpFunc_int_degree_Make_c1_spec (p0 : (List Int)) (p1 : Int) (p2 : Int) (p3 : Int) (c4_0 : (List Int)) (βp0 : BK) {out : (List Int)} (H : slices_siftDownCmpFunc_int_degree_Make_c1_F p0 p1 p2 p3 c4_0 = some out) : Does Try.prog 106 [.own βp0 1 0 p0.length, .v (.int .i64 p1), .v (.int .i64 p2), .v (.int .i64 p3), .fn 57 1 (nth [.rp 1 1 (row [c4_0]).get 0 0])] [.one βp0 3 1 (row p0)] (slices_siftDownCmpFunc_int_degree_Make_c1_P out βp0) := by
 unfold slices_siftDownCmpFunc_int_degree_Make_c1_F at H
 refine Does.intro Try.func106 rfl Try.ntmps106 rfl fun w0 I0 => ?_
 refine GoC.seq ?_
 refine GoC.region ?_
 refine GoO.pure (ps_move rfl rfl) ?_
 refine GoO.pure (ps_assign rfl rfl) ?_
 refine GoO.nil ?_
 refine GoK.code ?_
 have hb := bind_l H; clear H
 obtain ⟨q5, hl31, HK3⟩ := hb
 refine GoC.blockJ [] [] (fun v h => ∃ (l6 : (List Int)) (x7 : Int), q5 = .go (l6, x7) ∧ v = [] ∧ h = [.one βp0 3 1 (row l6)]) ?_ ?_
 refine GoC.loopJ [(2, _), (3, _), (4, _)] [] (fun mQ v h => ∃ (l1 : (List Int)) (x2 : Int), loopC (slices_siftDownCmpFunc_int_degree_Make_c1_B1 p2 p3 c4_0) mQ (l1, x2) = some q5 ∧ v = [(0, .own βp0 1 0 l1.length), (10, .v (.int .i64 x2))] ∧ h = [.one βp0 3 1 (row l1)]) 1000000 ⟨_, _, hl31, rfl, rfl⟩ (EnvD.cons rfl (DLe.len (by first | rfl | omega | (simp only [row_len, gridC_len, rowO_len] <;> first | rfl | omega))) (EnvD.eq rfl (EnvD.eq rfl (EnvD.eq rfl (EnvD.eq rfl (EnvD.nil)))))) (TkD.cons _ _ _ _ _ Rem.p0 (HLe.refl _) (TkD.nil _)) ?_
 rintro m8 v h ⟨l1, x2, hF4, rfl, rfl⟩
 obtain ⟨m8', rfl⟩ | rfl : (∃ x, m8 = x + 1) ∨ m8 = 0 := by cases m8 <;> simp
 case inr => cases hF4
 have hb := bind_l hF4; clear hF4
 obtain ⟨qrm8, H, hF4⟩ := hb
 refine GoC.block ?_
 refine GoC.seq ?_
 refine GoC.region ?_
 refine GoO.pure (ps_move rfl rfl) ?_
 have c9 := ck_l H; replace H := ck_r H
 refine GoO.pure (ps_mul rfl rfl rfl c9) ?_
 have c10 := ck_l H; replace H := ck_r H
 refine GoO.pure (ps_add rfl rfl rfl c10) ?_
 refine GoO.pure (ps_assign rfl rfl) ?_
 refine GoO.nil ?_
 refine GoK.code ?_
 refine GoC.seq ?_
 refine GoC.seq ?_
 refine GoC.region ?_
 refine GoO.pure (ps_move rfl rfl) ?_
 refine GoO.pure (ps_move rfl rfl) ?_
 refine GoO.pure (ps_geq rfl rfl rfl) ?_
 refine GoO.nil ?_
 refine GoK.code ?_
 refine GoC.condD rfl (fun h11 => ?_) (fun h11 => ?_)
 replace H := ite_t h11 H
 refine GoC.exit rfl ?_
 obtain rfl := Option.some.inj H
 obtain rfl := Option.some.inj hF4
 exact GoK.meet ⟨_, _, rfl, rfl, rfl⟩ (EnvD.nil) (TkD.cons _ _ _ _ _ Rem.p0 (HLe.refl _) (TkD.nil _))
 replace H := ite_f h11 H
 refine GoC.skip ?_
 refine GoK.code ?_
 have hb := bind_l H; clear H
 obtain ⟨x12, H, HK13⟩ := hb
 refine GoC.seqJ [(0, .own βp0 1 0 l1.length), (2, .v (.int .i64 p2)), (3, .v (.int .i64 p3)), (4, .fn 57 1 (nth [.rp 1 1 (row [c4_0]).get 0 0])), (10, .v (.int .i64 x2))] [.one βp0 3 1 (row l1)] (fun v h => v = [(11, .v (.int .i64 x12))] ∧ h = []) ?_ ?_
 refine GoC.seq ?_
 refine GoC.drawA (.q 0 (.q 1 (.q 2 (.q 3 (.q 4 (.q 5 (.q 6 (.q 7 (.q 8 (.q 9 (.q 10 (.q 11 (.q 12 (.q 13 (.q 14 (.q 15 (.q 16 (.q 17 (.q 18 (.one 19 (.q 20 (.q 21 (.done))))))))))))))))))))))) follows (by kernel_rfl) ?_
 refine GoP.qN rfl (ps_move rfl rfl) ?_
 have c15 := ck_l H; replace H := ck_r H
 refine GoP.qN rfl (ps_add rfl rfl rfl c15) ?_
 refine GoP.qN rfl (ps_move rfl rfl) ?_
 refine GoP.qN rfl (ps_lss rfl rfl rfl) ?_
 refine GoP.qN rfl (ps_move rfl rfl) ?_
 refine GoP.decideD 23 rfl (fun h16 => ?_) (fun h16 => ?_)
 replace H := ite_t h16 H
 refine GoP.qT rfl rfl rfl rfl (ps_move rfl rfl) ?_
 refine GoP.qT rfl rfl rfl rfl (ps_move rfl rfl) ?_
 refine GoP.qT rfl rfl rfl rfl (ps_move rfl rfl) ?_
 refine GoP.qT rfl rfl rfl rfl (ps_move rfl rfl) ?_
 have c17 := ck_l H; replace H := ck_r H
 refine GoP.qT rfl rfl rfl rfl (ps_add rfl rfl rfl c17) ?_
 have c18 := ck_l H; replace H := ck_r H
 refine GoP.qT rfl rfl rfl rfl (ps_indexAddr0 rfl rfl c18 rfl) ?_
 refine GoP.qT rfl rfl rfl rfl (ps_load rfl At.p0 At.p0 (idx_lt c18) rfl rfl) ?_
 refine GoP.qT rfl rfl rfl rfl (ps_move rfl rfl) ?_
 refine GoP.qT rfl rfl rfl rfl (ps_move rfl rfl) ?_
 refine GoP.qT rfl rfl rfl rfl (ps_move rfl rfl) ?_
 refine GoP.qT rfl rfl rfl rfl (ps_add rfl rfl rfl c17) ?_
 have c19 := ck_l H; replace H := ck_r H
 refine GoP.qT rfl rfl rfl rfl (ps_add rfl rfl rfl c19) ?_
 have c20 := ck_l H; replace H := ck_r H
 refine GoP.qT rfl rfl rfl rfl (ps_indexAddr0 rfl rfl c20 rfl) ?_
 refine GoP.qT rfl rfl rfl rfl (ps_load rfl At.p0 At.p0 (idx_lt c20) rfl rfl) ?_
 have hb := bind_l H; clear H
 obtain ⟨r21, e22, H⟩ := hb
 refine GoP.oneC rfl ⟨_, rfl, rfl, rfl⟩ (ef_callv rfl rfl rfl (Take.nil _) (Take.nil _) (degree_Make_c1_spec (l1.getD ((p3 + ((2 * x2) + 1)).toNat) (0 : Int)) (l1.getD (((p3 + ((2 * x2) + 1)) + 1).toNat) (0 : Int)) c4_0 e22) (LendL.cons (Lend.refl _ _) (LendL.cons (Lend.refl _ _) (LendL.cons (Lend.refl _ _) (LendL.nil)))) rfl (degree_Make_c1_I (r21))) (Take.cons _ _ _ _ _ Rem.p0 (Take.nil _)) (fun rr HH hp => ?_)
 obtain ⟨rfl, rfl⟩ := hp
 refine GoP.qT rfl rfl rfl rfl (ps_lss rfl rfl rfl) ?_
 refine GoP.qN rfl (ps_pickT rfl rfl rfl) ?_
 refine GoP.done ?_
 refine GoK.code ?_
 refine GoC.condD rfl (fun h23 => ?_) (fun h23 => ?_)
 replace H := ite_t h23 H
 refine GoC.region ?_
 refine GoO.pure (ps_move rfl rfl) ?_
 refine GoO.pure (ps_add rfl rfl rfl c15) ?_
 refine GoO.pure (ps_assign rfl rfl) ?_
 refine GoO.nil ?_
 cases H
 exact GoK.meet ⟨rfl, rfl⟩ (EnvD.eq rfl (EnvD.eq rfl (EnvD.eq rfl (EnvD.eq rfl (EnvD.eq rfl (EnvD.eq rfl (EnvD.nil))))))) (TkD.cons _ _ _ _ _ Rem.p0 (HLe.refl _) (TkD.nil _))
 replace H := ite_f h23 H
 refine GoC.skip ?_
 cases H
 exact GoK.meet ⟨rfl, rfl⟩ (EnvD.eq rfl (EnvD.eq rfl (EnvD.eq rfl (EnvD.eq rfl (EnvD.eq rfl (EnvD.eq rfl (EnvD.nil))))))) (TkD.cons _ _ _ _ _ Rem.p0 (HLe.refl _) (TkD.nil _))
 replace H := ite_f h16 H
 refine GoP.qF rfl rfl rfl rfl rfl ?_
 refine GoP.qF rfl rfl rfl rfl rfl ?_
 refine GoP.qF rfl rfl rfl rfl rfl ?_
 refine GoP.qF rfl rfl rfl rfl rfl ?_
 refine GoP.qF rfl rfl rfl rfl rfl ?_
 refine GoP.qF rfl rfl rfl rfl rfl ?_
 refine GoP.qF rfl rfl rfl rfl rfl ?_
 refine GoP.qF rfl rfl rfl rfl rfl ?_
 refine GoP.qF rfl rfl rfl rfl rfl ?_
 refine GoP.qF rfl rfl rfl rfl rfl ?_
 refine GoP.qF rfl rfl rfl rfl rfl ?_
 refine GoP.qF rfl rfl rfl rfl rfl ?_
 refine GoP.qF rfl rfl rfl rfl rfl ?_
 refine GoP.qF rfl rfl rfl rfl rfl ?_
 refine GoP.oneF rfl rfl rfl rfl rfl ?_
 refine GoP.qF rfl rfl rfl rfl rfl ?_
 refine GoP.qN rfl (ps_pickF rfl rfl rfl) ?_
 refine GoP.done ?_
 refine GoK.code ?_
 refine GoC.condF rfl ?_
 refine GoC.skip ?_
 cases H
 exact GoK.meet ⟨rfl, rfl⟩ (EnvD.eq rfl (EnvD.eq rfl (EnvD.eq rfl (EnvD.eq rfl (EnvD.eq rfl (EnvD.eq rfl (EnvD.nil))))))) (TkD.cons _ _ _ _ _ Rem.p0 (HLe.refl _) (TkD.nil _))
 rintro v h ⟨rfl, rfl⟩
 have H := HK13; clear HK13
 refine GoC.seq ?_
 refine GoC.seq ?_
 refine GoC.drawA (.q 0 (.q 1 (.q 2 (.q 3 (.q 4 (.q 5 (.q 6 (.q 7 (.q 8 (.q 9 (.q 10 (.q 11 (.q 12 (.one 13 (.q 14 (.q 15 (.done))))))))))))))))) follows (by kernel_rfl) ?_
 refine GoP.qN rfl (ps_move rfl rfl) ?_
 refine GoP.qN rfl (ps_move rfl rfl) ?_
 refine GoP.qN rfl (ps_move rfl rfl) ?_
 refine GoP.qN rfl (ps_move rfl rfl) ?_
 have c24 := ck_l H; replace H := ck_r H
 refine GoP.qN rfl (ps_add rfl rfl rfl c24) ?_
 have c25 := ck_l H; replace H := ck_r H
 refine GoP.qN rfl (ps_indexAddr0 rfl rfl c25 rfl) ?_
 refine GoP.qN rfl (ps_load rfl At.p0 At.p0 (idx_lt c25) rfl rfl) ?_
 refine GoP.qN rfl (ps_move rfl rfl) ?_
 refine GoP.qN rfl (ps_move rfl rfl) ?_
 refine GoP.qN rfl (ps_move rfl rfl) ?_
 have c26 := ck_l H; replace H := ck_r H
 refine GoP.qN rfl (ps_add rfl rfl rfl c26) ?_
 have c27 := ck_l H; replace H := ck_r H
 refine GoP.qN rfl (ps_indexAddr0 rfl rfl c27 rfl) ?_
 refine GoP.qN rfl (ps_load rfl At.p0 At.p0 (idx_lt c27) rfl rfl) ?_
 have hb := bind_l H; clear H
 obtain ⟨r28, e29, H⟩ := hb
 refine GoP.oneC rfl trivial (ef_callv rfl rfl rfl (Take.nil _) (Take.nil _) (degree_Make_c1_spec (l1.getD ((p3 + x2).toNat) (0 : Int)) (l1.getD ((p3 + x12).toNat) (0 : Int)) c4_0 e29) (LendL.cons (Lend.refl _ _) (LendL.cons (Lend.refl _ _) (LendL.cons (Lend.refl _ _) (LendL.nil)))) rfl (degree_Make_c1_I (r28))) (Take.cons _ _ _ _ _ Rem.p0 (Take.nil _)) (fun rr HH hp => ?_)
 obtain ⟨rfl, rfl⟩ := hp
 refine GoP.qN rfl (ps_lss rfl rfl rfl) ?_
 refine GoP.qN rfl (ps_notD rfl rfl) ?_
 refine GoP.done ?_
 refine GoK.code ?_
 refine GoC.condD rfl (fun h30 => ?_) (fun h30 => ?_)
 replace H := ite_t h30 H
 obtain rfl := Option.some.inj H
 obtain rfl := Option.some.inj hF4
 obtain rfl := Option.some.inj HK3
 exact GoC.retL (ds := []) Try.results106 (ResL.nil) (Take.cons _ _ _ _ _ Rem.p0 (Take.nil _)) ⟨rfl, rfl⟩
 replace H := ite_f h30 H
 refine GoC.skip ?_
 refine GoK.code ?_
 refine GoC.seq ?_
 refine GoC.drawP (.q 0 (.q 1 (.q 2 (.q 3 (.q 4 (.q 5 (.q 6 (.q 7 (.q 8 (.q 9 (.q 10 (.q 11 (.q 12 (.q 14 (.q 15 (.q 16 (.q 17 (.q 18 (.two 13 19 (.one 19 (.q 20 (.one 21 (.q 22 (.one 23 (.done)))))) (.one 13 (.q 20 (.one 21 (.q 22 (.one 23 (.done))))))))))))))))))))))))) [] follows (by kernel_rfl) (Take.nil _) ?_
 refine GoP.qN rfl (ps_move rfl rfl) ?_
 refine GoP.qN rfl (ps_move rfl rfl) ?_
 refine GoP.qN rfl (ps_move rfl rfl) ?_
 refine GoP.qN rfl (ps_add rfl rfl rfl c24) ?_
 refine GoP.qN rfl (ps_move rfl rfl) ?_
 refine GoP.qN rfl (ps_move rfl rfl) ?_
 refine GoP.qN rfl (ps_move rfl rfl) ?_
 refine GoP.qN rfl (ps_add rfl rfl rfl c26) ?_
 refine GoP.qN rfl (ps_move rfl rfl) ?_
 refine GoP.qN rfl (ps_move rfl rfl) ?_
 refine GoP.qN rfl (ps_move rfl rfl) ?_
 refine GoP.qN rfl (ps_add rfl rfl rfl c26) ?_
 refine GoP.qN rfl (ps_indexAddr0 rfl rfl c27 rfl) ?_
 refine GoP.qN rfl (ps_move rfl rfl) ?_
 refine GoP.qN rfl (ps_move rfl rfl) ?_
 refine GoP.qN rfl (ps_move rfl rfl) ?_
 refine GoP.qN rfl (ps_add rfl rfl rfl c24) ?_
 refine GoP.qN rfl (ps_indexAddr0 rfl rfl c25 rfl) ?_
 apply GoP.fork0
 exact rfl
 exact rfl
 exact trivial
 exact trivial
 exact Eff.pure (H1 := [.one βp0 3 1 (row l1)]) (ps_load rfl At.p0 At.p0 (idx_lt c27) rfl rfl)
 exact Eff.pure (H1 := [.one βp0 3 1 (row l1)]) (ps_load rfl At.p0 At.p0 (idx_lt c25) rfl rfl)
 exact (Take.nil _)
 exact (Take.nil _)
 intro hQ
 rintro _ rfl
 refine GoP.oneN rfl (ps_load rfl At.p0 At.p0 (idx_lt c25) rfl rfl) (Take.nil _) ?_
 refine GoP.qN rfl (ps_indexAddr0 rfl rfl c25 rfl) ?_
 refine GoP.one1 rfl trivial (ef_store rfl rfl rfl At.p0 (upd_row1 (v := (l1.getD ((p3 + x12).toNat) (0 : Int))) rfl) (idx_lt c25) rfl) (Take.cons _ _ _ _ _ Rem.p0 (Take.nil _)) ?_
 refine GoP.qN rfl (ps_indexAddr0 rfl rfl c27 rfl) ?_
 refine GoP.one1 rfl trivial (ef_store rfl rfl rfl At.p0 (upd_row1 (v := (l1.getD ((p3 + x2).toNat) (0 : Int))) rfl) (lt_len (idx_lt c27) (by first | rfl | omega | (simp only [row_len, gridC_len, rowO_len, List.length_set] <;> first | rfl | omega))) rfl) (Take.cons _ _ _ _ _ Rem.p0 (Take.nil _)) ?_
 exact GoP.done (hQ)
 intro hQ
 rintro _ rfl
 refine GoP.oneN rfl (ps_load rfl At.p0 At.p0 (idx_lt c27) rfl rfl) (Take.nil _) ?_
 refine GoP.qN rfl (ps_indexAddr0 rfl rfl c25 rfl) ?_
 refine GoP.one1 rfl trivial (ef_store rfl rfl rfl At.p0 (upd_row1 (v := (l1.getD ((p3 + x12).toNat) (0 : Int))) rfl) (idx_lt c25) rfl) (Take.cons _ _ _ _ _ Rem.p0 (Take.nil _)) ?_
 refine GoP.qN rfl (ps_indexAddr0 rfl rfl c27 rfl) ?_
 refine GoP.one1 rfl trivial (ef_store rfl rfl rfl At.p0 (upd_row1 (v := (l1.getD ((p3 + x2).toNat) (0 : Int))) rfl) (lt_len (idx_lt c27) (by first | rfl | omega | (simp only [row_len, gridC_len, rowO_len, List.length_set] <;> first | rfl | omega))) rfl) (Take.cons _ _ _ _ _ Rem.p0 (Take.nil _)) ?_
 refine GoP.done (GoK.le ?_ (hQ))
 refine Le.ofDW ?_ (TkD.cons _ _ _ _ _ Rem.p0 (HLe.refl _) (TkD.nil _))
 repeat (first | exact EnvLeW.nil | refine EnvLeW.cons rfl ?_ | refine EnvLeW.skip rfl ?_)
 refine GoK.code ?_
 refine GoC.region ?_
 refine GoO.pure (ps_move rfl rfl) ?_
 refine GoO.pure (ps_assign rfl rfl) ?_
 refine GoO.nil ?_
 refine GoK.blk ?_
 obtain rfl := Option.some.inj H
 exact GoK.againJ m8' (by omega) ⟨_, _, hF4, rfl, rfl⟩ (EnvD.cons rfl (DLe.len (by first | rfl | omega | (simp only [row_len, gridC_len, rowO_len, List.length_set] <;> first | rfl | omega))) (EnvD.eq rfl (EnvD.eq rfl (EnvD.eq rfl (EnvD.eq rfl (EnvD.nil)))))) (TkD.cons _ _ _ _ _ Rem.p0 (HLe.refl _) (TkD.nil _))
 rintro v h ⟨l6, x7, rfl, rfl, rfl⟩
 have H := HK3; clear HK3
 obtain rfl := Option.some.inj H
 exact GoK.retL (ds := []) Try.results106 (ResL.nil) (Take.cons _ _ _ _ _ Rem.p0 (Take.nil _)) ⟨rfl, rfl⟩

def slices_heapSortCmpFunc_int_degree_Make_c1_B1 (p1 : Int) (p2 : Int) (c3_0 : (List Int)) : ((List Int) × Int) → Option (Ct ((List Int) × Int) ((List Int))) := fun (l4, x5) =>
 if 0 ≤ x5 then
  (slices_siftDownCmpFunc_int_degree_Make_c1_F l4 x5 (p2 - p1) p1 c3_0).bind fun l13 =>
  ck (l13.length = l4.length) <|
  ck (InI (x5 - 1)) <|
  some (.go (l13, (x5 - 1)))
 else
  some (.brk (l4, x5))
def slices_heapSortCmpFunc_int_degree_Make_c1_B2 (p1 : Int) (c3_0 : (List Int)) : ((List Int) × Int) → Option (Ct ((List Int) × Int) ((List Int))) := fun (l18, x19) =>
 if 0 ≤ x19 then
  ck (InI (p1 + x19)) <|
  ck (0 ≤ (p1 + x19) ∧ (p1 + x19) < ((l18.length : Nat) : Int)) <|
  ck (0 ≤ p1 ∧ p1 < ((l18.length : Nat) : Int)) <|
  (slices_siftDownCmpFunc_int_degree_Make_c1_F ((l18.set p1.toNat (l18.getD ((p1 + x19).toNat) (0 : Int))).set ((p1 + x19).toNat) (l18.getD p1.toNat (0 : Int))) 0 x19 p1 c3_0).bind fun l30 =>
  ck (l30.length = l18.length) <|
  ck (InI (x19 - 1)) <|
  some (.go (l30, (x19 - 1)))
 else
  some (.brk (l18, x19))
def slices_heapSortCmpFunc_int_degree_Make_c1_F (p0 : (List Int)) (p1 : Int) (p2 : Int) (c3_0 : (List Int)) : Option ((List Int)) :=
 ck (InI (p2 - p1)) <|
 ck (InI ((p2 - p1) - 1)) <|
 ck (InI (Int.tdiv ((p2 - p1) - 1) 2)) <|
 (loopC (slices_heapSortCmpFunc_int_degree_Make_c1_B1 p1 p2 c3_0) 1000000 (p0, (Int.tdiv ((p2 - p1) - 1) 2))).bind fun q => match q with
 | .go (l9, x10) =>
  (loopC (slices_heapSortCmpFunc_int_degree_Make_c1_B2 p1 c3_0) 1000000 (l9, ((p2 - p1) - 1))).bind fun q => match q with
  | .go (l23, x24) =>
   some l23
  | .ret x => some x
 | .ret x => some x
def slices_heapSortCmpFunc_int_degree_Make_c1_P (out : (List Int)) (βp0 : BK) (d : D) (H : List HL) : Prop := d = .tp 0 (nth []) ∧ H = [.one βp0 3 1 (row out)]
theorem slices_heapSortCmpFunc_int_degree_Make_c1_I (out : (List Int)) (βp0 : BK) : IndepP (slices_heapSortCmpFunc_int_degree_Make_c1_P out βp0) := IndepP.of (by rintro _ _ ⟨rfl, rfl⟩; exact ⟨inferInstance, inferInstance⟩)
set_option maxRecDepth 100000 in
set_option maxHeartbeats 4000000 in
theorem slices_heapSortCmpFunc_int_degree_Make_c1_spec (p0 : (List Int)) (p1 : Int) (p2 : Int) (c3_0 : (List Int)) (βp0 : BK) {out : (List Int)} (H : slices_heapSortCmpFunc_int_degree_Make_c1_F p0 p1 p2 c3_0 = some out) : Does Try.prog 93 [.own βp0 1 0 p0.length, .v (.int .i64 p1), .v (.int .i64 p2), .fn 57 1 (nth [.rp 1 1 (row [c3_0]).get 0 0])] [.one βp0 3 1 (row p0)] (slices_heapSortCmpFunc_int_degree_Make_c1_P out βp0) := by
 unfold slices_heapSortCmpFunc_int_degree_Make_c1_F at H
 refine Does.intro Try.func93 rfl Try.ntmps93 rfl fun w0 I0 => ?_
 refine GoC.seq ?_
 refine GoC.region ?_
 refine GoO.pure (ps_move rfl rfl) ?_
 refine GoO.pure (ps_assign rfl rfl) ?_
 refine GoO.nil ?_
 refine GoK.code ?_
 refine GoC.seq ?_
 refine GoC.region ?_
 refine GoO.pure (ps_assign rfl rfl) ?_
 refine GoO.nil ?_
 refine GoK.code ?_
 refine GoC.seq ?_
 refine GoC.region ?_
 refine GoO.pure (ps_move rfl rfl) ?_
 refine GoO.pure (ps_move rfl rfl) ?_
 have c1 := ck_l H; replace H := ck_r H
 refine GoO.pure (ps_sub rfl rfl rfl c1) ?_
 refine GoO.pure (ps_assign rfl rfl) ?_
 refine GoO.nil ?_
 refine GoK.code ?_
 refine GoC.seq ?_
 refine GoC.seq ?_
 refine GoC.region ?_
 refine GoO.pure (ps_move rfl rfl) ?_
 have c2 := ck_l H; replace H := ck_r H
 refine GoO.pure (ps_sub rfl rfl rfl c2) ?_
 have c3 := ck_l H; replace H := ck_r H
 refine GoO.pure (ps_quo rfl rfl rfl (by decide) c3) ?_
 refine GoO.pure (ps_assign rfl rfl) ?_
 refine GoO.nil ?_
 refine GoK.code ?_
 have hb := bind_l H; clear H
 obtain ⟨q8, hl17, HK6⟩ := hb
 refine GoC.blockJ [(3, .fn 57 1 (nth [.rp 1 1 (row [c3_0]).get 0 0])), (8, .v (.int .i64 p1)), (9, .v (.int .i64 0)), (10, .v (.int .i64 (p2 - p1)))] [] (fun v h => ∃ (l9 : (List Int)) (x10 : Int), q8 = .go (l9, x10) ∧ v = [(0, .own βp0 1 0 l9.length)] ∧ h = [.one βp0 3 1 (row l9)]) ?_ ?_
 refine GoC.loopJ [(3, _), (8, _), (9, _), (10, _)] [] (fun mQ v h => ∃ (l4 : (List Int)) (x5 : Int), loopC (slices_heapSortCmpFunc_int_degree_Make_c1_B1 p1 p2 c3_0) mQ (l4, x5) = some q8 ∧ v = [(0, .own βp0 1 0 l4.length), (11, .v (.int .i64 x5))] ∧ h = [.one βp0 3 1 (row l4)]) 1000000 ⟨_, _, hl17, rfl, rfl⟩ (EnvD.cons rfl (DLe.len (by first | rfl | omega | (simp only [row_len, gridC_len, rowO_len] <;> first | rfl | omega))) (EnvD.eq rfl (EnvD.eq rfl (EnvD.eq rfl (EnvD.eq rfl (EnvD.eq rfl (EnvD.nil))))))) (TkD.cons _ _ _ _ _ Rem.p0 (HLe.refl _) (TkD.nil _)) ?_
 rintro m11 v h ⟨l4, x5, hF7, rfl, rfl⟩
 obtain ⟨m11', rfl⟩ | rfl : (∃ x, m11 = x + 1) ∨ m11 = 0 := by cases m11 <;> simp
 case inr => cases hF7
 have hb := bind_l hF7; clear hF7
 obtain ⟨qrm11, H, hF7⟩ := hb
 refine GoC.seq ?_
 refine GoC.seq ?_
 refine GoC.region ?_
 refine GoO.pure (ps_move rfl rfl) ?_
 refine GoO.pure (ps_geq rfl rfl rfl) ?_
 refine GoO.nil ?_
 refine GoK.code ?_
 refine GoC.condD rfl (fun h12 => ?_) (fun h12 => ?_)
 replace H := ite_t h12 H
 refine GoC.skip ?_
 refine GoK.code ?_
 refine GoC.seq ?_
 refine GoC.block ?_
 refine GoC.region ?_
 refine GoO.pure (ps_move rfl rfl) ?_
 refine GoO.pure (ps_move rfl rfl) ?_
 refine GoO.pure (ps_move rfl rfl) ?_
 refine GoO.pure (ps_move rfl rfl) ?_
 refine GoO.pure (ps_move rfl rfl) ?_
 have hb := bind_l H; clear H
 obtain ⟨l13, e14, H⟩ := hb
 have c15 := ck_l H; replace H := ck_r H
 refine GoO.effC (ef_call rfl (Take.cons _ _ _ _ _ Rem.p0 (Take.nil _)) (Take.nil _) (slices_siftDownCmpFunc_int_degree_Make_c1_spec l4 x5 (p2 - p1) p1 c3_0 βp0 e14) (LendL.cons (Lend.refl _ _) (LendL.cons (Lend.refl _ _) (LendL.cons (Lend.refl _ _) (LendL.cons (Lend.refl _ _) (LendL.cons (Lend.fn (LendL.cons (Lend.refl _ _) (LendL.nil))) (LendL.nil)))))) rfl (slices_siftDownCmpFunc_int_degree_Make_c1_I (l13) βp0)) (fun rr HH hp => ?_)
 obtain ⟨rfl, rfl⟩ := hp
 refine GoO.nil ?_
 refine GoK.blk ?_
 refine GoK.code ?_
 refine GoC.region ?_
 refine GoO.pure (ps_move rfl rfl) ?_
 have c16 := ck_l H; replace H := ck_r H
 refine GoO.pure (ps_sub rfl rfl rfl c16) ?_
 refine GoO.pure (ps_assign rfl rfl) ?_
 refine GoO.nil ?_
 obtain rfl := Option.some.inj H
 exact GoK.againJ m11' (by omega) ⟨_, _, hF7, rfl, rfl⟩ (EnvD.cons rfl (DLe.len (by first | rfl | omega | (simp only [row_len, gridC_len, rowO_len, c15] <;> first | rfl | omega))) (EnvD.eq rfl (EnvD.eq rfl (EnvD.eq rfl (EnvD.eq rfl (EnvD.eq rfl (EnvD.nil))))))) (TkD.cons _ _ _ _ _ Rem.p0 (HLe.refl _) (TkD.nil _))
 replace H := ite_f h12 H
 refine GoC.exit rfl ?_
 obtain rfl := Option.some.inj H
 obtain rfl := Option.some.inj hF7
 exact GoK.meet ⟨_, _, rfl, rfl, rfl⟩ (EnvD.cons rfl (DLe.len (by first | rfl | omega | (simp only [row_len, gridC_len, rowO_len] <;> first | rfl | omega))) (EnvD.eq rfl (EnvD.eq rfl (EnvD.eq rfl (EnvD.eq rfl (EnvD.nil)))))) (TkD.cons _ _ _ _ _ Rem.p0 (HLe.refl _) (TkD.nil _))
 rintro v h ⟨l9, x10, rfl, rfl, rfl⟩
 have H := HK6; clear HK6
 refine GoK.code ?_
 refine GoC.seq ?_
 refine GoC.region ?_
 refine GoO.pure (ps_move rfl rfl) ?_
 refine GoO.pure (ps_sub rfl rfl rfl c2) ?_
 refine GoO.pure (ps_assign rfl rfl) ?_
 refine GoO.nil ?_
 refine GoK.code ?_
 have hb := bind_l H; clear H
 obtain ⟨q22, hl34, HK20⟩ := hb
 refine GoC.blockJ [] [] (fun v h => ∃ (l23 : (List Int)) (x24 : Int), q22 = .go (l23, x24) ∧ v = [] ∧ h = [.one βp0 3 1 (row l23)]) ?_ ?_
 refine GoC.loopJ [(3, _), (8, _), (9, _)] [] (fun mQ v h => ∃ (l18 : (List Int)) (x19 : Int), loopC (slices_heapSortCmpFunc_int_degree_Make_c1_B2 p1 c3_0) mQ (l18, x19) = some q22 ∧ v = [(0, .own βp0 1 0 l18.length), (12, .v (.int .i64 x19))] ∧ h = [.one βp0 3 1 (row l18)]) 1000000 ⟨_, _, hl34, rfl, rfl⟩ (EnvD.cons rfl (DLe.len (by first | rfl | omega | (simp only [row_len, gridC_len, rowO_len] <;> first | rfl | omega))) (EnvD.eq rfl (EnvD.eq rfl (EnvD.eq rfl (EnvD.eq rfl (EnvD.nil)))))) (TkD.cons _ _ _ _ _ Rem.p0 (HLe.refl _) (TkD.nil _)) ?_
 rintro m25 v h ⟨l18, x19, hF21, rfl, rfl⟩
 obtain ⟨m25', rfl⟩ | rfl : (∃ x, m25 = x + 1) ∨ m25 = 0 := by cases m25 <;> simp
 case inr => cases hF21
 have hb := bind_l hF21; clear hF21
 obtain ⟨qrm25, H, hF21⟩ := hb
 refine GoC.seq ?_
 refine GoC.seq ?_
 refine GoC.region ?_
 refine GoO.pure (ps_move rfl rfl) ?_
 refine GoO.pure (ps_geq rfl rfl rfl) ?_
 refine GoO.nil ?_
 refine GoK.code ?_
 refine GoC.condD rfl (fun h26 => ?_) (fun h26 => ?_)
 replace H := ite_t h26 H
 refine GoC.skip ?_
 refine GoK.code ?_
 refine GoC.seq ?_
 refine GoC.block ?_
 refine GoC.seq ?_
 refine GoC.drawP (.q 0 (.q 1 (.q 2 (.q 3 (.q 4 (.q 5 (.q 6 (.q 7 (.q 8 (.q 9 (.q 10 (.q 12 (.q 13 (.q 14 (.two 11 15 (.one 15 (.q 16 (.one 17 (.q 18 (.one 19 (.done)))))) (.one 11 (.q 16 (.one 17 (.q 18 (.one 19 (.done))))))))))))))))))))) [] follows (by kernel_rfl) (Take.nil _) ?_
 refine GoP.qN rfl (ps_move rfl rfl) ?_
 refine GoP.qN rfl (ps_move rfl rfl) ?_
 refine GoP.qN rfl (ps_move rfl rfl) ?_
 refine GoP.qN rfl (ps_move rfl rfl) ?_
 refine GoP.qN rfl (ps_move rfl rfl) ?_
 have c27 := ck_l H; replace H := ck_r H
 refine GoP.qN rfl (ps_add rfl rfl rfl c27) ?_
 refine GoP.qN rfl (ps_move rfl rfl) ?_
 refine GoP.qN rfl (ps_move rfl rfl) ?_
 refine GoP.qN rfl (ps_move rfl rfl) ?_
 refine GoP.qN rfl (ps_add rfl rfl rfl c27) ?_
 have c28 := ck_l H; replace H := ck_r H
 refine GoP.qN rfl (ps_indexAddr0 rfl rfl c28 rfl) ?_
 refine GoP.qN rfl (ps_move rfl rfl) ?_
 refine GoP.qN rfl (ps_move rfl rfl) ?_
 have c29 := ck_l H; replace H := ck_r H
 refine GoP.qN rfl (ps_indexAddr0 rfl rfl c29 rfl) ?_
 apply GoP.fork0
 exact rfl
 exact rfl
 exact trivial
 exact trivial
 exact Eff.pure (H1 := [.one βp0 3 1 (row l18)]) (ps_load rfl At.p0 At.p0 (idx_lt c28) rfl rfl)
 exact Eff.pure (H1 := [.one βp0 3 1 (row l18)]) (ps_load rfl At.p0 At.p0 (idx_lt c29) rfl rfl)
 exact (Take.nil _)
 exact (Take.nil _)
 intro hQ
 rintro _ rfl
 refine GoP.oneN rfl (ps_load rfl At.p0 At.p0 (idx_lt c29) rfl rfl) (Take.nil _) ?_
 refine GoP.qN rfl (ps_indexAddr0 rfl rfl c29 rfl) ?_
 refine GoP.one1 rfl trivial (ef_store rfl rfl rfl At.p0 (upd_row1 (v := (l18.getD ((p1 + x19).toNat) (0 : Int))) rfl) (idx_lt c29) rfl) (Take.cons _ _ _ _ _ Rem.p0 (Take.nil _)) ?_
 refine GoP.qN rfl (ps_indexAddr0 rfl rfl c28 rfl) ?_
 refine GoP.one1 rfl trivial (ef_store rfl rfl rfl At.p0 (upd_row1 (v := (l18.getD p1.toNat (0 : Int))) rfl) (lt_len (idx_lt c28) (by first | rfl | omega | (simp only [row_len, gridC_len, rowO_len, List.length_set] <;> first | rfl | omega))) rfl) (Take.cons _ _ _ _ _ Rem.p0 (Take.nil _)) ?_
 exact GoP.done (hQ)
 intro hQ
 rintro _ rfl
 refine GoP.oneN rfl (ps_load rfl At.p0 At.p0 (idx_lt c28) rfl rfl) (Take.nil _) ?_
 refine GoP.qN rfl (ps_indexAddr0 rfl rfl c29 rfl) ?_
 refine GoP.one1 rfl trivial (ef_store rfl rfl rfl At.p0 (upd_row1 (v := (l18.getD ((p1 + x19).toNat) (0 : Int))) rfl) (idx_lt c29) rfl) (Take.cons _ _ _ _ _ Rem.p0 (Take.nil _)) ?_
 refine GoP.qN rfl (ps_indexAddr0 rfl rfl c28 rfl) ?_
 refine GoP.one1 rfl trivial (ef_store rfl rfl rfl At.p0 (upd_row1 (v := (l18.getD p1.toNat (0 : Int))) rfl) (lt_len (idx_lt c28) (by first | rfl | omega | (simp only [row_len, gridC_len, rowO_len, List.length_set] <;> first | rfl | omega))) rfl) (Take.cons _ _ _ _ _ Rem.p0 (Take.nil _)) ?_
 refine GoP.done (GoK.le ?_ (hQ))
 refine Le.ofDW ?_ (TkD.cons _ _ _ _ _ Rem.p0 (HLe.refl _) (TkD.nil _))
 repeat (first | exact EnvLeW.nil | refine EnvLeW.cons rfl ?_ | refine EnvLeW.skip rfl ?_)
 refine GoK.code ?_
 refine GoC.region ?_
 refine GoO.pure (ps_move rfl rfl) ?_
 refine GoO.pure (ps_move rfl rfl) ?_
 refine GoO.pure (ps_move rfl rfl) ?_
 refine GoO.pure (ps_move rfl rfl) ?_
 refine GoO.pure (ps_move rfl rfl) ?_
 have hb := bind_l H; clear H
 obtain ⟨l30, e31, H⟩ := hb
 have c32 := ck_l H; replace H := ck_r H
 refine GoO.effC (ef_call rfl (Take.cons _ _ _ _ _ Rem.p0 (Take.nil _)) (Take.nil _) (slices_siftDownCmpFunc_int_degree_Make_c1_spec ((l18.set p1.toNat (l18.getD ((p1 + x19).toNat) (0 : Int))).set ((p1 + x19).toNat) (l18.getD p1.toNat (0 : Int))) 0 x19 p1 c3_0 βp0 e31) (LendL.cons (Lend.ofLe (DLe.len (by first | rfl | omega | (simp only [subl_length, cpl_length, List.length_set, List.length_append, List.length_cons, List.length_nil, List.length_replicate, row_len] <;> first | rfl | omega)))) (LendL.cons (Lend.refl _ _) (LendL.cons (Lend.refl _ _) (LendL.cons (Lend.refl _ _) (LendL.cons (Lend.fn (LendL.cons (Lend.refl _ _) (LendL.nil))) (LendL.nil)))))) rfl (slices_siftDownCmpFunc_int_degree_Make_c1_I (l30) βp0)) (fun rr HH hp => ?_)
 obtain ⟨rfl, rfl⟩ := hp
 refine GoO.nil ?_
 refine GoK.blk ?_
 refine GoK.code ?_
 refine GoC.region ?_
 refine GoO.pure (ps_move rfl rfl) ?_
 have c33 := ck_l H; replace H := ck_r H
 refine GoO.pure (ps_sub rfl rfl rfl c33) ?_
 refine GoO.pure (ps_assign rfl rfl) ?_
 refine GoO.nil ?_
 obtain rfl := Option.some.inj H
 exact GoK.againJ m25' (by omega) ⟨_, _, hF21, rfl, rfl⟩ (EnvD.cons rfl (DLe.len (by first | rfl | omega | (simp only [row_len, gridC_len, rowO_len, c32] <;> first | rfl | omega))) (EnvD.eq rfl (EnvD.eq rfl (EnvD.eq rfl (EnvD.eq rfl (EnvD.nil)))))) (TkD.cons _ _ _ _ _ Rem.p0 (HLe.refl _) (TkD.nil _))
 replace H := ite_f h26 H
 refine GoC.exit rfl ?_
 obtain rfl := Option.some.inj H
 obtain rfl := Option.some.inj hF21
 exact GoK.meet ⟨_, _, rfl, rfl, rfl⟩ (EnvD.nil) (TkD.cons _ _ _ _ _ Rem.p0 (HLe.refl _) (TkD.nil _))
 rintro v h ⟨l23, x24, rfl, rfl, rfl⟩
 have H := HK20; clear HK20
 obtain rfl := Option.some.inj H
 exact GoK.retL (ds := []) Try.results93 (ResL.nil) (Take.cons _ _ _ _ _ Rem.p0 (Take.nil _)) ⟨rfl, rfl⟩

def slices_pdqsortCmpFunc_int_degree_Make_c1_B1 (p0 : (List Int)) (p1 : Int) (p2 : Int) (p3 : Int) (c4_0 : (List Int)) : Unit → Option (Ct (Unit) ((List Int))) := fun _ =>
 ck (InI (p2 - p1)) <|
 if (p2 - p1) ≤ 12 then
  (slices_insertionSortCmpFunc_int_degree_Make_c1_F p0 p1 p2 c4_0).bind fun l7 =>
  ck (l7.length = p0.length) <|
  some (.ret l7)
 else
  if p3 = 0 then
   (slices_heapSortCmpFunc_int_degree_Make_c1_F p0 p1 p2 c4_0).bind fun l11 =>
   ck (l11.length = p0.length) <|
   some (.ret l11)
  else
   ((
    some ()) : Option (Unit)).bind fun () =>
   none
def slices_pdqsortCmpFunc_int_degree_Make_c1_S (rec : (List Int) → Int → Int → Int → (List Int) → Option ((List Int))) (p0 : (List Int)) (p1 : Int) (p2 : Int) (p3 : Int) (c4_0 : (List Int)) : Option ((List Int)) :=
 (loopC (slices_pdqsortCmpFunc_int_degree_Make_c1_B1 p0 p1 p2 p3 c4_0) 1000000 ()).bind fun q => match q with
 | .go _ =>
  none
 | .ret x => some x
def slices_pdqsortCmpFunc_int_degree_Make_c1_F : Nat → (List Int) → Int → Int → Int → (List Int) → Option ((List Int))
 | 0 => fun _ _ _ _ _ => none
 | fuel + 1 => slices_pdqsortCmpFunc_int_degree_Make_c1_S (slices_pdqsortCmpFunc_int_degree_Make_c1_F fuel)
def slices_pdqsortCmpFunc_int_degree_Make_c1_P (out : (List Int)) (βp0 : BK) (d : D) (H : List HL) : Prop := d = .tp 0 (nth []) ∧ H = [.one βp0 3 1 (row out)]
theorem slices_pdqsortCmpFunc_int_degree_Make_c1_I (out : (List Int)) (βp0 : BK) : IndepP (slices_pdqsortCmpFunc_int_degree_Make_c1_P out βp0) := IndepP.of (by rintro _ _ ⟨rfl, rfl⟩; exact ⟨inferInstance, inferInstance⟩)
set_option maxRecDepth 100000 in
set_option maxHeartbeats 4000000 in
theorem slices_pdqsortCmpFunc_int_degree_Make_c1_spec : ∀ (fuel : Nat) (p0 : (List Int)) (p1 : Int) (p2 : Int) (p3 : Int) (c4_0 : (List Int)) (βp0 : BK) {out : (List Int)} (H : slices_pdqsortCmpFunc_int_degree_Make_c1_F fuel p0 p1 p2 p3 c4_0 = some out), Does Try.prog 69 [.own βp0 1 0 p0.length, .v (.int .i64 p1), .v (.int .i64 p2), .v (.int .i64 p3), .fn 57 1 (nth [.rp 1 1 (row [c4_0]).get 0 0])] [.one βp0 3 1 (row p0)] (slices_pdqsortCmpFunc_int_degree_Make_c1_P out βp0) := by
 intro fuel
 induction fuel with
 | zero => intro p0 p1 p2 p3 c4_0 βp0 out H; cases H
 | succ fuel ih =>
 intro p0 p1 p2 p3 c4_0 βp0 out H
 replace H : slices_pdqsortCmpFunc_int_degree_Make_c1_S (slices_pdqsortCmpFunc_int_degree_Make_c1_F fuel) p0 p1 p2 p3 c4_0 = some out := H
 generalize slices_pdqsortCmpFunc_int_degree_Make_c1_F fuel = rec at ih H
 unfold slices_pdqsortCmpFunc_int_degree_Make_c1_S at H
 refine Does.intro Try.func69 rfl Try.ntmps69 rfl fun w0 I0 => ?_
 refine GoC.seq ?_
 refine GoC.region ?_
 refine GoO.pure (ps_assign rfl rfl) ?_
 refine GoO.nil ?_
 refine GoK.code ?_
 refine GoC.seq ?_
 refine GoC.region ?_
 refine GoO.pure (ps_assign rfl rfl) ?_
 refine GoO.nil ?_
 refine GoK.code ?_
 have hb := bind_l H; clear H
 obtain ⟨q3, hl16, HK1⟩ := hb
 refine GoC.blockJ [] [.one βp0 3 1 (row p0)] (fun v h => q3 = .go () ∧ v = [] ∧ h = []) ?_ ?_
 refine GoC.loopJ [(0, _), (1, _), (2, _), (3, _), (4, _), (10, _), (11, _)] [.one βp0 3 1 (row p0)] (fun mQ v h => loopC (slices_pdqsortCmpFunc_int_degree_Make_c1_B1 p0 p1 p2 p3 c4_0) mQ () = some q3 ∧ v = [] ∧ h = []) 1000000 ⟨hl16, rfl, rfl⟩ (EnvD.eq rfl (EnvD.eq rfl (EnvD.eq rfl (EnvD.eq rfl (EnvD.eq rfl (EnvD.eq rfl (EnvD.eq rfl (EnvD.nil)))))))) (TkD.cons _ _ _ _ _ Rem.p0 (HLe.refl _) (TkD.nil _)) ?_
 rintro m4 v h ⟨hF2, rfl, rfl⟩
 obtain ⟨m4', rfl⟩ | rfl : (∃ x, m4 = x + 1) ∨ m4 = 0 := by cases m4 <;> simp
 case inr => cases hF2
 have hb := bind_l hF2; clear hF2
 obtain ⟨qrm4, H, hF2⟩ := hb
 refine GoC.block ?_
 refine GoC.seq ?_
 refine GoC.region ?_
 refine GoO.pure (ps_move rfl rfl) ?_
 refine GoO.pure (ps_move rfl rfl) ?_
 have c5 := ck_l H; replace H := ck_r H
 refine GoO.pure (ps_sub rfl rfl rfl c5) ?_
 refine GoO.pure (ps_assign rfl rfl) ?_
 refine GoO.nil ?_
 refine GoK.code ?_
 refine GoC.seq ?_
 refine GoC.seq ?_
 refine GoC.region ?_
 refine GoO.pure (ps_move rfl rfl) ?_
 refine GoO.pure (ps_leq rfl rfl rfl) ?_
 refine GoO.nil ?_
 refine GoK.code ?_
 refine GoC.condD rfl (fun h6 => ?_) (fun h6 => ?_)
 replace H := ite_t h6 H
 refine GoC.seq ?_
 refine GoC.region ?_
 refine GoO.pure (ps_move rfl rfl) ?_
 refine GoO.pure (ps_move rfl rfl) ?_
 refine GoO.pure (ps_move rfl rfl) ?_
 refine GoO.pure (ps_move rfl rfl) ?_
 have hb := bind_l H; clear H
 obtain ⟨l7, e8, H⟩ := hb
 have c9 := ck_l H; replace H := ck_r H
 refine GoO.effC (ef_call rfl (Take.cons _ _ _ _ _ Rem.p0 (Take.nil _)) (Take.nil _) (slices_insertionSortCmpFunc_int_degree_Make_c1_spec p0 p1 p2 c4_0 βp0 e8) (LendL.cons (Lend.refl _ _) (LendL.cons (Lend.refl _ _) (LendL.cons (Lend.refl _ _) (LendL.cons (Lend.fn (LendL.cons (Lend.refl _ _) (LendL.nil))) (LendL.nil))))) rfl (slices_insertionSortCmpFunc_int_degree_Make_c1_I (l7) βp0)) (fun rr HH hp => ?_)
 obtain ⟨rfl, rfl⟩ := hp
 refine GoO.nil ?_
 refine GoK.code ?_
 obtain rfl := Option.some.inj H
 obtain rfl := Option.some.inj hF2
 obtain rfl := Option.some.inj HK1
 exact GoC.retL (ds := []) Try.results69 (ResL.nil) (Take.cons _ _ _ _ _ Rem.p0 (Take.nil _)) ⟨rfl, rfl⟩
 replace H := ite_f h6 H
 refine GoC.skip ?_
 refine GoK.code ?_
 refine GoC.seq ?_
 refine GoC.seq ?_
 refine GoC.region ?_
 refine GoO.pure (ps_move rfl rfl) ?_
 refine GoO.pure (ps_eql rfl rfl rfl) ?_
 refine GoO.nil ?_
 refine GoK.code ?_
 refine GoC.condD rfl (fun h10 => ?_) (fun h10 => ?_)
 replace H := ite_t h10 H
 refine GoC.seq ?_
 refine GoC.region ?_
 refine GoO.pure (ps_move rfl rfl) ?_
 refine GoO.pure (ps_move rfl rfl) ?_
 refine GoO.pure (ps_move rfl rfl) ?_
 refine GoO.pure (ps_move rfl rfl) ?_
 have hb := bind_l H; clear H
 obtain ⟨l11, e12, H⟩ := hb
 have c13 := ck_l H; replace H := ck_r H
 refine GoO.effC (ef_call rfl (Take.cons _ _ _ _ _ Rem.p0 (Take.nil _)) (Take.nil _) (slices_heapSortCmpFunc_int_degree_Make_c1_spec p0 p1 p2 c4_0 βp0 e12) (LendL.cons (Lend.refl _ _) (LendL.cons (Lend.refl _ _) (LendL.cons (Lend.refl _ _) (LendL.cons (Lend.fn (LendL.cons (Lend.refl _ _) (LendL.nil))) (LendL.nil))))) rfl (slices_heapSortCmpFunc_int_degree_Make_c1_I (l11) βp0)) (fun rr HH hp => ?_)
 obtain ⟨rfl, rfl⟩ := hp
 refine GoO.nil ?_
 refine GoK.code ?_
 obtain rfl := Option.some.inj H
 obtain rfl := Option.some.inj hF2
 obtain rfl := Option.some.inj HK1
 exact GoC.retL (ds := []) Try.results69 (ResL.nil) (Take.cons _ _ _ _ _ Rem.p0 (Take.nil _)) ⟨rfl, rfl⟩
 replace H := ite_f h10 H
 refine GoC.skip ?_
 refine GoK.code ?_
 have hb := bind_l H; clear H
 obtain ⟨⟨⟩, H, HK14⟩ := hb
 refine GoC.seqJ [(0, .own βp0 1 0 p0.length), (1, .v (.int .i64 p1)), (2, .v (.int .i64 p2)), (3, .v (.int .i64 p3)), (4, .fn 57 1 (nth [.rp 1 1 (row [c4_0]).get 0 0])), (10, .v (.bool true)), (11, .v (.bool true)), (12, .v (.int .i64 (p2 - p1)))] [.one βp0 3 1 (row p0)] (fun v h => v = [] ∧ h = []) ?_ ?_
 refine GoC.seq ?_
 refine GoC.region ?_
 refine GoO.pure (ps_move rfl rfl) ?_
 refine GoO.pure (ps_not rfl rfl) ?_
 refine GoO.nil ?_
 refine GoK.code ?_
 refine GoC.condF rfl ?_
 refine GoC.skip ?_
 cases H
 exact GoK.meet ⟨rfl, rfl⟩ (EnvD.eq rfl (EnvD.eq rfl (EnvD.eq rfl (EnvD.eq rfl (EnvD.eq rfl (EnvD.eq rfl (EnvD.eq rfl (EnvD.eq rfl (EnvD.nil))))))))) (TkD.cons _ _ _ _ _ Rem.p0 (HLe.refl _) (TkD.nil _))
 rintro v h ⟨rfl, rfl⟩
 have H := HK14; clear HK14
 refine GoC.seq ?_
 refine GoC.region ?_
 refine GoO.pure (ps_move rfl rfl) ?_
 refine GoO.pure (ps_move rfl rfl) ?_
 refine GoO.pure (ps_move rfl rfl) ?_
 refine GoO.pure (ps_move rfl rfl) ?_
 cases H
 rintro v h ⟨rfl, rfl, rfl⟩
 have H := HK1; clear HK1
 cases H

def slices_SortFunc_int_degree_Make_c1_F (p0 : (List Int)) (c1_0 : (List Int)) : Option ((List Int)) :=
 (bits_Len_F (IntKind.u64.wrap ((p0.length : Nat) : Int))).bind fun r2 =>
 (slices_pdqsortCmpFunc_int_degree_Make_c1_F 100 p0 0 ((p0.length : Nat) : Int) r2 c1_0).bind fun l4 =>
 ck (l4.length = p0.length) <|
 some l4
def slices_SortFunc_int_degree_Make_c1_P (out : (List Int)) (βp0 : BK) (d : D) (H : List HL) : Prop := d = .tp 0 (nth []) ∧ H = [.one βp0 3 1 (row out)]
theorem slices_SortFunc_int_degree_Make_c1_I (out : (List Int)) (βp0 : BK) : IndepP (slices_SortFunc_int_degree_Make_c1_P out βp0) := IndepP.of (by rintro _ _ ⟨rfl, rfl⟩; exact ⟨inferInstance, inferInstance⟩)
set_option maxRecDepth 100000 in
set_option maxHeartbeats 4000000 in
theorem slices_SortFunc_int_degree_Make_c1_spec (p0 : (List Int)) (c1_0 : (List Int)) (βp0 : BK) {out : (List Int)} (H : slices_SortFunc_int_degree_Make_c1_F p0 c1_0 = some out) : Does Try.prog 50 [.own βp0 1 0 p0.length, .fn 57 1 (nth [.rp 1 1 (row [c1_0]).get 0 0])] [.one βp0 3 1 (row p0)] (slices_SortFunc_int_degree_Make_c1_P out βp0) := by
 unfold slices_SortFunc_int_degree_Make_c1_F at H
 refine Does.intro Try.func50 rfl Try.ntmps50 rfl fun w0 I0 => ?_
 refine GoC.seq ?_
 refine GoC.region ?_
 refine GoO.pure (ps_move rfl rfl) ?_
 refine GoO.pure (ps_len rfl (by constructor) rfl) ?_
 refine GoO.lenLe (n := p0.length) (x := .tmp 5) rfl (by constructor) own_lenLe (fun ml1 => ?_)
 refine GoO.pure (ps_assign rfl rfl) ?_
 refine GoO.nil ?_
 refine GoK.code ?_
 refine GoC.region ?_
 refine GoO.pure (ps_move rfl rfl) ?_
 refine GoO.pure (ps_move rfl rfl) ?_
 refine GoO.pure (ps_move rfl rfl) ?_
 refine GoO.pure (ps_convK rfl rfl) ?_
 have hb := bind_l H; clear H
 obtain ⟨r2, e3, H⟩ := hb
 refine GoO.effC (ef_call rfl (Take.nil _) (Take.nil _) (bits_Len_spec (IntKind.u64.wrap ((p0.length : Nat) : Int)) e3) (LendL.cons (Lend.refl _ _) (LendL.nil)) rfl (bits_Len_I (r2))) (fun rr HH hp => ?_)
 obtain ⟨rfl, rfl⟩ := hp
 refine GoO.pure (ps_move rfl rfl) ?_
 have hb := bind_l H; clear H
 obtain ⟨l4, e5, H⟩ := hb
 have c6 := ck_l H; replace H := ck_r H
 refine GoO.effC (ef_call rfl (Take.cons _ _ _ _ _ Rem.p0 (Take.nil _)) (Take.nil _) (slices_pdqsortCmpFunc_int_degree_Make_c1_spec 100 p0 0 ((p0.length : Nat) : Int) r2 c1_0 βp0 e5) (LendL.cons (Lend.refl _ _) (LendL.cons (Lend.refl _ _) (LendL.cons (Lend.refl _ _) (LendL.cons (Lend.refl _ _) (LendL.cons (Lend.fn (LendL.cons (Lend.refl _ _) (LendL.nil))) (LendL.nil)))))) rfl (slices_pdqsortCmpFunc_int_degree_Make_c1_I (l4) βp0)) (fun rr HH hp => ?_)
 obtain ⟨rfl, rfl⟩ := hp
 refine GoO.nil ?_
 obtain rfl := Option.some.inj H
 exact GoK.retL (ds := []) Try.results50 (ResL.nil) (Take.cons _ _ _ _ _ Rem.p0 (Take.nil _)) ⟨rfl, rfl⟩

def degree_Make_B2 (l : (List Int)) : ((List Int) × Nat) → Option (Ct ((List Int) × Nat) ((List Int) × (List Arc))) := fun (l22, n23) =>
 if ((n23 : Nat) : Int) < ((l.length : Nat) : Int) then
  ck (l22.length + 1 ≤ 17592186044416) <|
  ck (InI (((n23 : Nat) : Int) + 1)) <|
  some (.go ((l22 ++ ([((n23 : Nat) : Int)] : List Int)), (n23 + 1)))
 else
  some (.brk (l22, n23))
def degree_Make_B3 (k19 : Nat) (l11 : (List Int)) (l36 : (List Int)) : Nat → ((List Int) × (List Arc)) → Option ((List Int) × (List Arc)) := fun k52 (l44, l46) =>
 ck (l46.length + 1 ≤ 5864062014805) <|
 ck (0 ≤ ((subl l36 0 ((l11.getD k19 (0 : Int)).toNat)).getD k52 (0 : Int)) ∧ ((subl l36 0 ((l11.getD k19 (0 : Int)).toNat)).getD k52 (0 : Int)) < ((l44.length : Nat) : Int)) <|
 ck (InI ((l44.getD (((subl l36 0 ((l11.getD k19 (0 : Int)).toNat)).getD k52 (0 : Int)).toNat) (0 : Int)) - 1)) <|
 some ((l44.set (((subl l36 0 ((l11.getD k19 (0 : Int)).toNat)).getD k52 (0 : Int)).toNat) ((l44.getD (((subl l36 0 ((l11.getD k19 (0 : Int)).toNat)).getD k52 (0 : Int)).toNat) (0 : Int)) - 1)), (l46 ++ ([(⟨((k19 : Nat) : Int), ((subl l36 0 ((l11.getD k19 (0 : Int)).toNat)).getD k52 (0 : Int)), 0⟩ : Arc)] : List Arc)))
def degree_Make_B1 (l : (List Int)) : Nat → ((List Int) × (List Arc)) → Option ((List Int) × (List Arc)) := fun k19 (l11, l13) =>
 (loopC (degree_Make_B2 l) 1000000 ([], (k19 + 1))).bind fun q => match q with
 | .go (l27, n28) =>
  (slices_SortFunc_int_degree_Make_c1_F l27 l11).bind fun l36 =>
  ck (l36.length = l27.length) <|
  ck (k19 < l11.length) <|
  ck (0 ≤ (l11.getD k19 (0 : Int))) <|
  ck ((l11.getD k19 (0 : Int)).toNat ≤ l27.length) <|
  (forN (degree_Make_B3 k19 l11 l36) ((l11.getD k19 (0 : Int)).toNat) 0 (l11, l13)).bind fun (l50, l51) =>
  some (l50, l51)
 | .ret x => some x
def degree_Make_F (l : (List Int)) : Option ((List Arc) × Int) :=
 (degree_Can_F l).bind fun (r1, r2) =>
 if r2 ≠ 0 then
  some ([], r2)
 else
  if (!r1) = true then
   some ([], 5)
  else
   (slices_Clone_int_F l).bind fun r6 =>
   (forN (degree_Make_B1 l) l.length 0 (r6, [])).bind fun (l17, l18) =>
   some (l18, 0)
def degree_Make_P (out : (List Arc) × Int) (d : D) (H : List HL) : Prop := ∃ β1 : BK, d = .tp 2 (nth [.own β1 3 0 out.1.length, .v (.int .i64 out.2)]) ∧ H = [.one β1 29 3 (row out.1)]
theorem degree_Make_I (out : (List Arc) × Int) : IndepP (degree_Make_P out) := IndepP.of (by rintro _ _ ⟨β1, rfl, rfl⟩; exact ⟨inferInstance, inferInstance⟩)
set_option maxRecDepth 100000 in
set_option maxHeartbeats 4000000 in
theorem degree_Make_spec (l : (List Int)) {out : (List Arc) × Int} (H : degree_Make_F l = some out) : Does Try.prog 25 [slD l] [] (degree_Make_P out) := by
 unfold degree_Make_F at H
 refine Does.intro Try.func25 rfl Try.ntmps25 rfl fun w0 I0 => ?_
 refine GoC.seq ?_
 refine GoC.region ?_
 refine GoO.pure (ps_assign rfl rfl) ?_
 refine GoO.pure (ps_assign rfl rfl) ?_
 refine GoO.nil ?_
 refine GoK.code ?_
 refine GoC.seq ?_
 refine GoC.region ?_
 refine GoO.pure (ps_move rfl rfl) ?_
 have hb := bind_l H; clear H
 obtain ⟨⟨r1, r2⟩, e3, H⟩ := hb
 refine GoO.effC (ef_call rfl (Take.nil _) (Take.nil _) (degree_Can_spec l e3) (LendL.cons (Lend.refl _ _) (LendL.nil)) rfl (degree_Can_I (r1, r2))) (fun rr HH hp => ?_)
 obtain ⟨rfl, rfl⟩ := hp
 refine GoO.pure (ps_move rfl rfl) ?_
 refine GoO.pure (ps_extract rfl rfl rfl) ?_
 refine GoO.pure (ps_extract rfl rfl rfl) ?_
 refine GoO.pure (ps_assign rfl rfl) ?_
 refine GoO.pure (ps_assign rfl rfl) ?_
 refine GoO.nil ?_
 refine GoK.code ?_
 refine GoC.seq ?_
 refine GoC.seq ?_
 refine GoC.region ?_
 refine GoO.pure (ps_move rfl rfl) ?_
 refine GoO.pure (ps_neq rfl rfl rfl) ?_
 refine GoO.nil ?_
 refine GoK.code ?_
 refine GoC.condD rfl (fun h4 => ?_) (fun h4 => ?_)
 replace H := ite_t h4 H
 refine GoC.seq ?_
 refine GoC.region ?_
 refine GoO.pure (ps_move rfl rfl) ?_
 refine GoO.pure (ps_assign rfl rfl) ?_
 refine GoO.pure (ps_assign rfl rfl) ?_
 refine GoO.nil ?_
 refine GoK.code ?_
 obtain rfl := Option.some.inj H
 refine GoC.le (le_row0 29 3 (row ([] : List Arc)) rfl) ?_
 exact GoC.retL (ds := [.own ⟨0, 0, 0⟩ 3 0 0, .v (.int .i64 r2)]) Try.results25 (ResL.cons (ResD.le (ResD.tmp rfl) (by exact DLe.nilOwn)) (ResL.cons (ResD.tmp rfl) (ResL.nil))) (Take.cons _ _ _ _ _ Rem.p0 (Take.nil _)) ⟨⟨0, 0, 0⟩, rfl, rfl⟩
 replace H := ite_f h4 H
 refine GoC.skip ?_
 refine GoK.code ?_
 refine GoC.seq ?_
 refine GoC.seq ?_
 refine GoC.region ?_
 refine GoO.pure (ps_move rfl rfl) ?_
 refine GoO.pure (ps_not rfl rfl) ?_
 refine GoO.nil ?_
 refine GoK.code ?_
 refine GoC.cond rfl (fun h5 => ?_) (fun h5 => ?_)
 replace H := itb_t h5 H
 refine GoC.seq ?_
 refine GoC.region ?_
 refine GoO.pure (ps_assign rfl rfl) ?_
 refine GoO.pure (ps_assign rfl rfl) ?_
 refine GoO.nil ?_
 refine GoK.code ?_
 obtain rfl := Option.some.inj H
 refine GoC.le (le_row0 29 3 (row ([] : List Arc)) rfl) ?_
 exact GoC.retL (ds := [.own ⟨0, 0, 0⟩ 3 0 0, .v (.int .i64 5)]) Try.results25 (ResL.cons (ResD.le (ResD.tmp rfl) (by exact DLe.nilOwn)) (ResL.cons (ResD.tmp rfl) (ResL.nil))) (Take.cons _ _ _ _ _ Rem.p0 (Take.nil _)) ⟨⟨0, 0, 0⟩, rfl, rfl⟩
 replace H := itb_f h5 H
 refine GoC.skip ?_
 refine GoK.code ?_
 refine GoC.seq ?_
 refine GoC.region ?_
 refine GoO.pure (ps_move rfl rfl) ?_
 have hb := bind_l H; clear H
 obtain ⟨r6, e8, H⟩ := hb
 refine GoO.effC (ef_call rfl (Take.nil _) (Take.nil _) (slices_Clone_int_spec l e8) (LendL.cons (Lend.refl _ _) (LendL.nil)) rfl (slices_Clone_int_I (r6))) (fun rr HH hp => ?_)
 obtain ⟨β7, rfl, rfl⟩ := hp
 refine GoO.effB (ef_alloc rfl) (fun β9 => ?_)
 refine GoO.eff1 (ef_store rfl rfl rfl At.p0 upd_st1 Nat.zero_lt_one rfl) ?_
 refine GoO.nil ?_
 refine GoK.code ?_
 refine GoC.seq ?_
 refine GoC.region ?_
 refine GoO.pure (ps_assign rfl rfl) ?_
 refine GoO.nil ?_
 refine GoK.code ?_
 refine GoC.seq ?_
 refine GoC.seq ?_
 refine GoC.region ?_
 refine GoO.pure (ps_move rfl rfl) ?_
 refine GoO.pure (ps_len rfl (by constructor) rfl) ?_
 refine GoO.lenLe (n := l.length) (x := .tmp 25) rfl (by constructor) sl_lenLe (fun ml10 => ?_)
 refine GoO.pure (ps_move rfl rfl) ?_
 refine GoO.nil ?_
 refine GoK.code ?_
 have hb := bind_l H; clear H
 obtain ⟨⟨l17, l18⟩, hl60, HK14⟩ := hb
 refine GoC.blockJ [] [] (fun v h => ∃ (β12 : BK), v = [(7, .own β12 3 0 l18.length)] ∧ h = [.one β7 3 1 (row l17), .one β9 30 1 (st1 (nth [.own β7 1 0 l17.length])), .one β12 29 3 (row l18)]) ?_ ?_
 refine GoC.loopJ [(0, _), (26, _)] [] (fun mQ v h => ∃ (k19 : Nat) (l11 : (List Int)) (l13 : (List Arc)) (β12 : BK), (k19 + mQ = l.length ∧ forN (degree_Make_B1 l) mQ k19 (l11, l13) = some (l17, l18)) ∧ v = [(27, .v (.int .i64 ((k19 : Nat) : Int))), (6, .ptr β9 1 0 0), (7, .own β12 3 0 l13.length)] ∧ h = [.one β7 3 1 (row l11), .one β9 30 1 (st1 (nth [.own β7 1 0 l11.length])), .one β12 29 3 (row l13)]) l.length ⟨_, _, _, ⟨0, 0, 0⟩, ⟨by omega, hl60⟩, rfl, rfl⟩ (EnvD.eq rfl (EnvD.eq rfl (EnvD.cons rfl (DLe.nilOwn) (EnvD.eq rfl (EnvD.eq rfl (EnvD.nil)))))) (TkD.cons _ _ _ _ _ Rem.p1 (HLe.refl _) (TkD.cons _ _ _ _ _ Rem.p0 (HLe.st ⟨trivial, DLe.len (by first | rfl | omega | (simp only [row_len, gridC_len, rowO_len] <;> first | rfl | omega))⟩) (TkD.no _ _ _ _ _ rfl (TkD.nil _)))) ?_
 rintro m20 v h ⟨k19, l11, l13, β12, ⟨hkk19, hF15⟩, rfl, rfl⟩
 refine GoC.seq ?_
 refine GoC.region ?_
 refine GoO.pure (ps_lss rfl rfl rfl) ?_
 refine GoO.nil ?_
 refine GoK.code ?_
 refine GoC.seq ?_
 refine GoC.condD rfl (fun (hk19 : (k19 : Int) < ((l.length : Nat) : Int)) => ?_) (fun (hk19 : ¬ (k19 : Int) < ((l.length : Nat) : Int)) => ?_)
 obtain ⟨m20', rfl⟩ : ∃ x, m20 = x + 1 := ⟨m20 - 1, by omega⟩
 have hb := bind_l hF15; clear hF15
 obtain ⟨qrm20, H, hF15⟩ := hb
 have hnk19 : k19 < l.length := by omega
 have hIk19 : InI ((k19 : Int) + 1) := inI_len hk19 ml10
 refine GoC.skip ?_
 refine GoK.code ?_
 refine GoC.seq ?_
 refine GoC.block ?_
 refine GoC.seq ?_
 refine GoC.region ?_
 refine GoO.pure (ps_move rfl rfl) ?_
 refine GoO.pure (ps_assign rfl rfl) ?_
 refine GoO.nil ?_
 refine GoK.code ?_
 refine GoC.seq ?_
 refine GoC.region ?_
 refine GoO.pure (ps_assign rfl rfl) ?_
 refine GoO.nil ?_
 refine GoK.code ?_
 refine GoC.seq ?_
 refine GoC.seq ?_
 refine GoC.region ?_
 refine GoO.pure (ps_move rfl rfl) ?_
 refine GoO.pure (ps_add rfl rfl rfl hIk19) ?_
 refine GoO.pure (ps_assign rfl rfl) ?_
 refine GoO.nil ?_
 refine GoK.code ?_
 have hb := bind_l H; clear H
 obtain ⟨q26, hl35, HK24⟩ := hb
 refine GoC.blockJ [(0, slD l), (6, .ptr β9 1 0 0), (7, .own β12 3 0 l13.length), (8, .v (.int .i64 ((k19 : Nat) : Int))), (26, .v (.int .i64 ((l.length : Nat) : Int))), (27, .v (.int .i64 ((k19 : Nat) : Int)))] [.one β7 3 1 (row l11), .one β9 30 1 (st1 (nth [.own β7 1 0 l11.length])), .one β12 29 3 (row l13)] (fun v h => ∃ (l27 : (List Int)) (n28 : Nat) (β21 : BK), q26 = .go (l27, n28) ∧ v = [(9, .own β21 1 0 l27.length)] ∧ h = [.one β21 3 1 (row l27)]) ?_ ?_
 refine GoC.loopJ [(0, _), (6, _), (7, _), (8, _), (26, _), (27, _)] [.one β7 3 1 (row l11), .one β9 30 1 (st1 (nth [.own β7 1 0 l11.length])), .one β12 29 3 (row l13)] (fun mQ v h => ∃ (l22 : (List Int)) (n23 : Nat) (β21 : BK), loopC (degree_Make_B2 l) mQ (l22, n23) = some q26 ∧ v = [(9, .own β21 1 0 l22.length), (10, .v (.int .i64 ((n23 : Nat) : Int)))] ∧ h = [.one β21 3 1 (row l22)]) 1000000 ⟨_, _, ⟨0, 0, 0⟩, hl35, rfl, rfl⟩ (EnvD.cons rfl (DLe.nilOwn) (EnvD.eq rfl (EnvD.eq rfl (EnvD.eq rfl (EnvD.eq rfl (EnvD.eq rfl (EnvD.eq rfl (EnvD.eq rfl (EnvD.nil))))))))) (TkD.no _ _ _ _ _ rfl (TkD.cons _ _ _ _ _ Rem.p0 (HLe.refl _) (TkD.cons _ _ _ _ _ Rem.p0 (HLe.st ⟨trivial, DLe.refl _⟩) (TkD.cons _ _ _ _ _ Rem.p0 (HLe.refl _) (TkD.nil _))))) ?_
 rintro m29 v h ⟨l22, n23, β21, hF25, rfl, rfl⟩
 obtain ⟨m29', rfl⟩ | rfl : (∃ x, m29 = x + 1) ∨ m29 = 0 := by cases m29 <;> simp
 case inr => cases hF25
 have hb := bind_l hF25; clear hF25
 obtain ⟨qrm29, H, hF25⟩ := hb
 refine GoC.seq ?_
 refine GoC.seq ?_
 refine GoC.region ?_
 refine GoO.pure (ps_move rfl rfl) ?_
 refine GoO.pure (ps_move rfl rfl) ?_
 refine GoO.pure (ps_len rfl (by constructor) rfl) ?_
 refine GoO.pure (ps_lss rfl rfl rfl) ?_
 refine GoO.nil ?_
 refine GoK.code ?_
 refine GoC.condD rfl (fun h30 => ?_) (fun h30 => ?_)
 replace H := ite_t h30 H
 refine GoC.skip ?_
 refine GoK.code ?_
 refine GoC.seq ?_
 refine GoC.block ?_
 refine GoC.region ?_
 refine GoO.pure (ps_move rfl rfl) ?_
 refine GoO.pure (ps_move rfl rfl) ?_
 refine GoO.effB (ef_buildSlice (row ([((n23 : Nat) : Int)] : List Int)) rfl (Parts.cons _ _ _ _ _ _ _ _ ⟨rfl, rfl⟩ (Part.one _ rfl rfl) rfl rfl (Parts.nil _)) rfl rfl rfl rfl) (fun β31 => ?_)
 have c33 := ck_l H; replace H := ck_r H
 refine GoO.effB (ef_append rfl rfl Rem.p1 (Src.own At.p0 (by first | omega | (simp only [subl_length, cpl_length, List.length_set, List.length_append, List.length_cons, List.length_nil, List.length_replicate, row_len]; omega) | (simp only [subl_length, cpl_length, List.length_set, List.length_append, List.length_cons, List.length_nil, List.length_replicate, row_len]; done))) (cat_row (α := Int) (by first | rfl | omega | (simp only [subl_length, cpl_length, List.length_set, List.length_append, List.length_cons, List.length_nil, List.length_replicate, row_len] <;> first | rfl | omega)) (by first | rfl | omega | (simp only [subl_length, cpl_length, List.length_set, List.length_append, List.length_cons, List.length_nil, List.length_replicate, row_len] <;> first | rfl | omega)) (fun _ _ _ _ => rfl)) (by first | omega | (simp only [subl_length, cpl_length, List.length_set, List.length_append, List.length_cons, List.length_nil, List.length_replicate, row_len]; omega) | (simp only [subl_length, cpl_length, List.length_set, List.length_append, List.length_cons, List.length_nil, List.length_replicate, row_len]; done)) (app_le c33 rfl) rfl rfl rfl) (fun β32 => ?_)
 refine GoO.pure (ps_assign rfl rfl) ?_
 refine GoO.nil ?_
 refine GoK.blk ?_
 refine GoK.code ?_
 refine GoC.region ?_
 refine GoO.pure (ps_move rfl rfl) ?_
 have c34 := ck_l H; replace H := ck_r H
 refine GoO.pure (ps_add rfl rfl rfl c34) ?_
 refine GoO.pure (ps_assign rfl rfl) ?_
 refine GoO.nil ?_
 obtain rfl := Option.some.inj H
 exact GoK.againJ m29' (by omega) ⟨_, _, β32, hF25, rfl, rfl⟩ (EnvD.cons rfl (DLe.len (by first | rfl | omega | (simp only [row_len, gridC_len, rowO_len, List.length_append, List.length_cons, List.length_nil] <;> first | rfl | omega))) (EnvD.eq rfl (EnvD.eq rfl (EnvD.eq rfl (EnvD.eq rfl (EnvD.eq rfl (EnvD.eq rfl (EnvD.eq rfl (EnvD.nil))))))))) (TkD.cons _ _ _ _ _ Rem.p0 (HLe.refl _) (TkD.cons _ _ _ _ _ Rem.p1 (HLe.refl _) (TkD.cons _ _ _ _ _ Rem.p1 (HLe.st ⟨trivial, DLe.refl _⟩) (TkD.cons _ _ _ _ _ Rem.p1 (HLe.refl _) (TkD.nil _)))))
 replace H := ite_f h30 H
 refine GoC.exit rfl ?_
 obtain rfl := Option.some.inj H
 obtain rfl := Option.some.inj hF25
 exact GoK.meet ⟨_, _, β21, rfl, rfl, rfl⟩ (EnvD.cons rfl (DLe.len (by first | rfl | omega | (simp only [row_len, gridC_len, rowO_len] <;> first | rfl | omega))) (EnvD.eq rfl (EnvD.eq rfl (EnvD.eq rfl (EnvD.eq rfl (EnvD.eq rfl (EnvD.eq rfl (EnvD.nil)))))))) (TkD.cons _ _ _ _ _ Rem.p0 (HLe.refl _) (TkD.cons _ _ _ _ _ Rem.p0 (HLe.refl _) (TkD.cons _ _ _ _ _ Rem.p0 (HLe.st ⟨trivial, DLe.refl _⟩) (TkD.cons _ _ _ _ _ Rem.p0 (HLe.refl _) (TkD.nil _)))))
 rintro v h ⟨l27, n28, β21, rfl, rfl, rfl⟩
 have H := HK24; clear HK24
 refine GoK.code ?_
 refine GoC.seq ?_
 refine GoC.region ?_
 refine GoO.pure (ps_move rfl rfl) ?_
 refine GoO.pure (ps_makeFunc rfl rfl rfl) ?_
 have hb := bind_l H; clear H
 obtain ⟨l36, e37, H⟩ := hb
 have c38 := ck_l H; replace H := ck_r H
 refine GoO.effC (ef_call rfl (Take.cons _ _ _ _ _ Rem.p0 (Take.nil _)) (Take.cons _ _ _ _ _ Rem.p1 (Take.cons _ _ _ _ _ Rem.p0 (Take.nil _))) (slices_SortFunc_int_degree_Make_c1_spec l27 l11 β21 e37) (LendL.cons (Lend.refl _ _) (LendL.cons (Lend.fn (LendL.cons (Lend.box (ds := [.own β7 1 0 l11.length]) At.p0 rfl (by decide) ⟨trivial, rfl⟩ (LendL.cons (Lend.all' At.p1 (by first | rfl | omega | (simp only [subl_length, cpl_length, List.length_set, List.length_append, List.length_cons, List.length_nil, List.length_replicate, row_len] <;> first | rfl | omega)) rfl) (LendL.nil)) ⟨trivial, rfl⟩ rfl) (LendL.nil))) (LendL.nil))) rfl (slices_SortFunc_int_degree_Make_c1_I (l36) β21)) (fun rr HH hp => ?_)
 obtain ⟨rfl, rfl⟩ := hp
 refine GoO.nil ?_
 refine GoK.code ?_
 refine GoC.seq ?_
 refine GoC.region ?_
 refine GoO.pure (ps_move rfl rfl) ?_
 refine GoO.pure (ps_load rfl At.p2 At.p2 Nat.zero_lt_one rfl rfl) ?_
 refine GoO.pure (ps_move rfl rfl) ?_
 have c39 := ck_l H; replace H := ck_r H
 refine GoO.pure (ps_indexAddr0N rfl rfl c39 rfl) ?_
 refine GoO.pure (ps_load rfl At.p1 At.p1 c39 rfl rfl) ?_
 have c40 := ck_l H; replace H := ck_r H
 have c41 := ck_l H; replace H := ck_r H
 refine GoO.pure (ps_slice rfl (Bd.no _) (Bd.int _ _ _ _ rfl c40) (Nat.zero_le _) c41 rfl) ?_
 refine GoO.le (Le.shift At.p0 (by have := c41; first | omega | (simp only [subl_length, cpl_length, List.length_set, List.length_append, List.length_cons, List.length_nil, List.length_replicate, row_len]; omega) | (simp only [subl_length, cpl_length, List.length_set, List.length_append, List.length_cons, List.length_nil, List.length_replicate, row_len, eldI]; omega))) ?_
 refine GoO.le (Le.reH At.p0 (HLe.part (xs := l36) (r := 0 + 0) (len := (l11.getD k19 (0 : Int)).toNat) (by have := c41; first | omega | (simp only [subl_length, cpl_length, List.length_set, List.length_append, List.length_cons, List.length_nil, List.length_replicate, row_len]; omega)))) ?_
 generalize (⟨β21.b, β21.o + (0 + 0) * 1, β21.s - (0 + 0)⟩ : BK) = β42
 refine GoO.pure (ps_len rfl (by constructor) rfl) ?_
 refine GoO.lenLe (n := ((l11.getD k19 (0 : Int)).toNat)) (x := .tmp 50) rfl (by constructor) own_lenLe (fun ml43 => ?_)
 refine GoO.pure (ps_move rfl rfl) ?_
 refine GoO.nil ?_
 refine GoK.code ?_
 have hb := bind_l H; clear H
 obtain ⟨⟨l50, l51⟩, hl59, HK47⟩ := hb
 refine GoC.blockJ [(0, slD l), (26, .v (.int .i64 ((l.length : Nat) : Int))), (27, .v (.int .i64 ((k19 : Nat) : Int)))] [.one β42 3 1 (row (subl l36 0 ((l11.getD k19 (0 : Int)).toNat)))] (fun v h => ∃ (β45 : BK), v = [(6, .ptr β9 1 0 0), (7, .own β45 3 0 l51.length)] ∧ h = [.one β7 3 1 (row l50), .one β9 30 1 (st1 (nth [.own β7 1 0 l50.length])), .one β45 29 3 (row l51)]) ?_ ?_
 refine GoC.loopJ [(0, _), (8, _), (26, _), (27, _), (50, _), (51, _)] [.one β42 3 1 (row (subl l36 0 ((l11.getD k19 (0 : Int)).toNat)))] (fun mQ v h => ∃ (k52 : Nat) (l44 : (List Int)) (l46 : (List Arc)) (β45 : BK), (k52 + mQ = ((l11.getD k19 (0 : Int)).toNat) ∧ forN (degree_Make_B3 k19 l11 l36) mQ k52 (l44, l46) = some (l50, l51)) ∧ v = [(52, .v (.int .i64 ((k52 : Nat) : Int))), (6, .ptr β9 1 0 0), (7, .own β45 3 0 l46.length)] ∧ h = [.one β7 3 1 (row l44), .one β9 30 1 (st1 (nth [.own β7 1 0 l44.length])), .one β45 29 3 (row l46)]) ((l11.getD k19 (0 : Int)).toNat) ⟨_, _, _, β12, ⟨by omega, hl59⟩, rfl, rfl⟩ (EnvD.eq rfl (EnvD.eq rfl (EnvD.cons rfl (DLe.len (by first | rfl | omega | (simp only [row_len, gridC_len, rowO_len, c38] <;> first | rfl | omega))) (EnvD.eq rfl (EnvD.eq rfl (EnvD.eq rfl (EnvD.eq rfl (EnvD.eq rfl (EnvD.eq rfl (EnvD.nil)))))))))) (TkD.cons _ _ _ _ _ Rem.p1 (HLe.refl _) (TkD.cons _ _ _ _ _ Rem.p1 (HLe.st ⟨trivial, DLe.len (by first | rfl | omega | (simp only [row_len, gridC_len, rowO_len, c38] <;> first | rfl | omega))⟩) (TkD.cons _ _ _ _ _ Rem.p1 (HLe.refl _) (TkD.cons _ _ _ _ _ Rem.p0 (HLe.refl _) (TkD.nil _))))) ?_
 rintro m53 v h ⟨k52, l44, l46, β45, ⟨hkk52, hF48⟩, rfl, rfl⟩
 refine GoC.seq ?_
 refine GoC.region ?_
 refine GoO.pure (ps_lss rfl rfl rfl) ?_
 refine GoO.nil ?_
 refine GoK.code ?_
 refine GoC.seq ?_
 refine GoC.condD rfl (fun (hk52 : (k52 : Int) < ((((l11.getD k19 (0 : Int)).toNat) : Nat) : Int)) => ?_) (fun (hk52 : ¬ (k52 : Int) < ((((l11.getD k19 (0 : Int)).toNat) : Nat) : Int)) => ?_)
 obtain ⟨m53', rfl⟩ : ∃ x, m53 = x + 1 := ⟨m53 - 1, by omega⟩
 have hb := bind_l hF48; clear hF48
 obtain ⟨qrm53, H, hF48⟩ := hb
 have hnk52 : k52 < ((l11.getD k19 (0 : Int)).toNat) := by omega
 have hIk52 : InI ((k52 : Int) + 1) := inI_len hk52 ml43
 refine GoC.skip ?_
 refine GoK.code ?_
 refine GoC.seq ?_
 refine GoC.block ?_
 refine GoC.seq ?_
 refine GoC.region ?_
 refine GoO.pure (ps_indexAddr0N rfl rfl hnk52 rfl) ?_
 refine GoO.pure (ps_load rfl At.p3 At.p3 (lt_len hnk52 (by first | rfl | omega | (simp only [row_len, gridC_len, rowO_len, subl_length, c38] <;> first | rfl | omega))) rfl rfl) ?_
 refine GoO.pure (ps_assign rfl rfl) ?_
 refine GoO.nil ?_
 refine GoK.code ?_
 refine GoC.seq ?_
 refine GoC.region ?_
 refine GoO.pure (ps_move rfl rfl) ?_
 refine GoO.pure (ps_move rfl rfl) ?_
 refine GoO.pure (ps_move rfl rfl) ?_
 refine GoO.pure (ps_build (Parts.cons _ _ _ _ _ _ _ _ FdP.of (Part.one _ rfl rfl) rfl rfl (Parts.cons _ _ _ _ _ _ _ _ FdP.of (Part.one _ rfl rfl) rfl rfl (Parts.nil _))) rfl) ?_
 refine GoO.effB (ef_buildSlice (row ([(⟨((k19 : Nat) : Int), ((subl l36 0 ((l11.getD k19 (0 : Int)).toNat)).getD k52 (0 : Int)), 0⟩ : Arc)] : List Arc)) rfl (Parts.cons _ _ _ _ _ _ _ _ ⟨rfl, rfl⟩ (Part.ag _ _ rfl) rfl rfl (Parts.nil _)) rfl rfl rfl rfl) (fun β54 => ?_)
 have c56 := ck_l H; replace H := ck_r H
 refine GoO.effB (ef_append rfl rfl Rem.p3 (Src.own At.p0 (by first | omega | (simp only [subl_length, cpl_length, List.length_set, List.length_append, List.length_cons, List.length_nil, List.length_replicate, row_len, c38]; omega) | (simp only [subl_length, cpl_length, List.length_set, List.length_append, List.length_cons, List.length_nil, List.length_replicate, row_len, c38]; done))) (cat_row (α := Arc) (by first | rfl | omega | (simp only [subl_length, cpl_length, List.length_set, List.length_append, List.length_cons, List.length_nil, List.length_replicate, row_len, c38] <;> first | rfl | omega)) (by first | rfl | omega | (simp only [subl_length, cpl_length, List.length_set, List.length_append, List.length_cons, List.length_nil, List.length_replicate, row_len, c38] <;> first | rfl | omega)) (fun _ _ _ _ => rfl)) (by first | omega | (simp only [subl_length, cpl_length, List.length_set, List.length_append, List.length_cons, List.length_nil, List.length_replicate, row_len, c38]; omega) | (simp only [subl_length, cpl_length, List.length_set, List.length_append, List.length_cons, List.length_nil, List.length_replicate, row_len, c38]; done)) (app_le c56 rfl) rfl rfl rfl) (fun β55 => ?_)
 refine GoO.pure (ps_assign rfl rfl) ?_
 refine GoO.nil ?_
 refine GoK.code ?_
 refine GoC.region ?_
 refine GoO.pure (ps_load rfl At.p3 At.p3 Nat.zero_lt_one rfl rfl) ?_
 refine GoO.pure (ps_move rfl rfl) ?_
 have c57 := ck_l H; replace H := ck_r H
 refine GoO.pure (ps_indexAddr0 rfl rfl c57 rfl) ?_
 refine GoO.pure (ps_load rfl At.p2 At.p2 (idx_lt c57) rfl rfl) ?_
 have c58 := ck_l H; replace H := ck_r H
 refine GoO.pure (ps_sub rfl rfl rfl c58) ?_
 refine GoO.pure (ps_indexAddr0 rfl rfl c57 rfl) ?_
 refine GoO.eff1 (ef_store rfl rfl rfl At.p2 (upd_row1 (v := ((l44.getD (((subl l36 0 ((l11.getD k19 (0 : Int)).toNat)).getD k52 (0 : Int)).toNat) (0 : Int)) - 1)) rfl) (idx_lt c57) rfl) ?_
 refine GoO.nil ?_
 refine GoK.blk ?_
 refine GoK.code ?_
 refine GoC.region ?_
 refine GoO.pure (ps_add rfl rfl rfl hIk52) ?_
 refine GoO.pure (ps_move rfl rfl) ?_
 refine GoO.nil ?_
 obtain rfl := Option.some.inj H
 exact GoK.againJ m53' (by omega) ⟨_, _, _, β55, ⟨by omega, hF48⟩, rfl, rfl⟩ (EnvD.eq rfl (EnvD.eq rfl (EnvD.cons rfl (DLe.len (by first | rfl | omega | (simp only [row_len, gridC_len, rowO_len, List.length_append, List.length_cons, List.length_nil, subl_length, c38] <;> first | rfl | omega))) (EnvD.eq rfl (EnvD.eq rfl (EnvD.eq rfl (EnvD.eq rfl (EnvD.eq rfl (EnvD.eq rfl (EnvD.nil)))))))))) (TkD.cons _ _ _ _ _ Rem.p2 (HLe.refl _) (TkD.cons _ _ _ _ _ Rem.p2 (HLe.st ⟨trivial, DLe.len (by first | rfl | omega | (simp only [row_len, gridC_len, rowO_len, List.length_set, subl_length, c38] <;> first | rfl | omega))⟩) (TkD.cons _ _ _ _ _ Rem.p0 (HLe.refl _) (TkD.cons _ _ _ _ _ Rem.p1 (HLe.refl _) (TkD.nil _)))))
 obtain rfl : m53 = 0 := by omega
 refine GoC.exit rfl ?_
 cases hF48
 exact GoK.meet ⟨β45, rfl, rfl⟩ (EnvD.eq rfl (EnvD.cons rfl (DLe.len (by first | rfl | omega | (simp only [row_len, gridC_len, rowO_len, c38] <;> first | rfl | omega))) (EnvD.eq rfl (EnvD.eq rfl (EnvD.eq rfl (EnvD.nil)))))) (TkD.cons _ _ _ _ _ Rem.p0 (HLe.refl _) (TkD.cons _ _ _ _ _ Rem.p0 (HLe.st ⟨trivial, DLe.len (by first | rfl | omega | (simp only [row_len, gridC_len, rowO_len, c38] <;> first | rfl | omega))⟩) (TkD.cons _ _ _ _ _ Rem.p0 (HLe.refl _) (TkD.cons _ _ _ _ _ Rem.p0 (HLe.refl _) (TkD.nil _)))))
 rintro v h ⟨β45, rfl, rfl⟩
 have H := HK47; clear HK47
 refine GoK.blk ?_
 refine GoK.code ?_
 refine GoC.region ?_
 refine GoO.pure (ps_add rfl rfl rfl hIk19) ?_
 refine GoO.pure (ps_move rfl rfl) ?_
 refine GoO.nil ?_
 obtain rfl := Option.some.inj H
 exact GoK.againJ m20' (by omega) ⟨_, _, _, β45, ⟨by omega, hF15⟩, rfl, rfl⟩ (EnvD.eq rfl (EnvD.eq rfl (EnvD.cons rfl (DLe.len (by first | rfl | omega | (simp only [row_len, gridC_len, rowO_len, c38] <;> first | rfl | omega))) (EnvD.eq rfl (EnvD.eq rfl (EnvD.nil)))))) (TkD.cons _ _ _ _ _ Rem.p0 (HLe.refl _) (TkD.cons _ _ _ _ _ Rem.p0 (HLe.st ⟨trivial, DLe.len (by first | rfl | omega | (simp only [row_len, gridC_len, rowO_len, c38] <;> first | rfl | omega))⟩) (TkD.cons _ _ _ _ _ Rem.p0 (HLe.refl _) (TkD.nil _))))
 obtain rfl : m20 = 0 := by omega
 refine GoC.exit rfl ?_
 cases hF15
 exact GoK.meet ⟨β12, rfl, rfl⟩ (EnvD.cons rfl (DLe.len (by first | rfl | omega | (simp only [row_len, gridC_len, rowO_len] <;> first | rfl | omega))) (EnvD.nil)) (TkD.cons _ _ _ _ _ Rem.p0 (HLe.refl _) (TkD.cons _ _ _ _ _ Rem.p0 (HLe.st ⟨trivial, DLe.len (by first | rfl | omega | (simp only [row_len, gridC_len, rowO_len] <;> first | rfl | omega))⟩) (TkD.cons _ _ _ _ _ Rem.p0 (HLe.refl _) (TkD.nil _))))
 rintro v h ⟨β12, rfl, rfl⟩
 have H := HK14; clear HK14
 refine GoK.code ?_
 refine GoC.seq ?_
 refine GoC.region ?_
 refine GoO.pure (ps_move rfl rfl) ?_
 refine GoO.pure (ps_assign rfl rfl) ?_
 refine GoO.pure (ps_assign rfl rfl) ?_
 refine GoO.nil ?_
 refine GoK.code ?_
 obtain rfl := Option.some.inj H
 exact GoC.retL (ds := [.own β12 3 0 l18.length, .v (.int .i64 0)]) Try.results25 (ResL.cons (ResD.tmp rfl) (ResL.cons (ResD.tmp rfl) (ResL.nil))) (Take.cons _ _ _ _ _ Rem.p2 (Take.nil _)) ⟨β12, rfl, rfl⟩

end Go.Proofs.Ytlpelkfcmeapiaa
