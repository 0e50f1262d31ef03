/- The functions stable.Check, stable.Best, told as plain functions, and that the code does as they say. -/
import Derived.Test.YtlpelkfcmeapiaaTys
import Derived.Test.YtlpelkfcmeapiaaDat
import Derived.Test.YtlpelkfcmeapiaaGslices
namespace Go.Proofs.Ytlpelkfcmeapiaa
open Go Go.Proofs.Ytlpelkfcmeapiaa.Sx
set_option linter.unusedVariables false
set_option linter.unusedSimpArgs false
def stable_Check_B2 (r6 : (List (List Int))) (k13 : Nat) : Nat → Unit → Option (Ct (Unit) (Ct (Unit) (Int))) := fun k20 _ =>
 (slices_Contains_int_F (r6.getD k13 []) ((k20 : Nat) : Int)).bind fun r22 =>
 if (!r22) = true then
  some (.ret (.ret 3))
 else
  some (.go ())
def stable_Check_B1 (a : (List (List Int))) (r6 : (List (List Int))) : Nat → Unit → Option (Ct (Unit) (Int)) := fun k13 _ =>
 if (((r6.getD k13 []).length : Nat) : Int) ≠ ((a.length : Nat) : Int) then
  some (.ret 3)
 else
  (forC (stable_Check_B2 r6 k13) ((r6.getD k13 []).length) 0 ()).bind fun q => match q with
  | .go _ =>
   some (.go ())
  | .ret x => some x
def stable_Check_F (a : (List (List Int))) (b : (List (List Int))) : Option (Int) :=
 if 6 < ((a.length : Nat) : Int) then
  some 2
 else
  if ((b.length : Nat) : Int) ≠ ((a.length : Nat) : Int) then
   some 3
  else
   (slices_Concat_intL_F ([a, b] : List (List (List Int)))).bind fun r6 =>
   (forC (stable_Check_B1 a r6) r6.length 0 ()).bind fun q => match q with
   | .go _ =>
    some 0
   | .ret x => some x
def stable_Check_P (out : Int) (d : D) (H : List HL) : Prop := d = .v (.int .i64 out) ∧ H = []
theorem stable_Check_I (out : Int) : IndepP (stable_Check_P out) := IndepP.of (by rintro _ _ ⟨rfl, rfl⟩; exact ⟨inferInstance, inferInstance⟩)
set_option maxRecDepth 100000 in
set_option maxHeartbeats 4000000 in
theorem stable_Check_spec (a : (List (List Int))) (b : (List (List Int))) {out : Int} (H : stable_Check_F a b = some out) : Does Try.prog 38 [slD a, slD b] [] (stable_Check_P out) := by
 unfold stable_Check_F at H
 refine Does.intro Try.func38 rfl Try.ntmps38 rfl fun w0 I0 => ?_
 refine GoC.seq ?_
 refine GoC.region ?_
 refine GoO.pure (ps_assign rfl rfl) ?_
 refine GoO.nil ?_
 refine GoK.code ?_
 refine GoC.seq ?_
 refine GoC.seq ?_
 refine GoC.region ?_
 refine GoO.pure (ps_move rfl rfl) ?_
 refine GoO.pure (ps_len rfl (by constructor) rfl) ?_
 refine GoO.lenLe (n := a.length) (x := .tmp 8) rfl (by constructor) sl_lenLe (fun ml1 => ?_)
 refine GoO.pure (ps_gtr rfl rfl rfl) ?_
 refine GoO.nil ?_
 refine GoK.code ?_
 refine GoC.condD rfl (fun h2 => ?_) (fun h2 => ?_)
 replace H := ite_t h2 H
 refine GoC.seq ?_
 refine GoC.region ?_
 refine GoO.pure (ps_assign rfl rfl) ?_
 refine GoO.nil ?_
 refine GoK.code ?_
 obtain rfl := Option.some.inj H
 exact GoC.retL (ds := [.v (.int .i64 2)]) Try.results38 (ResL.cons (ResD.tmp rfl) (ResL.nil)) (Take.nil _) ⟨rfl, rfl⟩
 replace H := ite_f h2 H
 refine GoC.skip ?_
 refine GoK.code ?_
 refine GoC.seq ?_
 refine GoC.seq ?_
 refine GoC.region ?_
 refine GoO.pure (ps_move rfl rfl) ?_
 refine GoO.pure (ps_len rfl (by constructor) rfl) ?_
 refine GoO.lenLe (n := b.length) (x := .tmp 11) rfl (by constructor) sl_lenLe (fun ml3 => ?_)
 refine GoO.pure (ps_move rfl rfl) ?_
 refine GoO.pure (ps_len rfl (by constructor) rfl) ?_
 refine GoO.pure (ps_neq rfl rfl rfl) ?_
 refine GoO.nil ?_
 refine GoK.code ?_
 refine GoC.condD rfl (fun h4 => ?_) (fun h4 => ?_)
 replace H := ite_t h4 H
 refine GoC.seq ?_
 refine GoC.region ?_
 refine GoO.pure (ps_assign rfl rfl) ?_
 refine GoO.nil ?_
 refine GoK.code ?_
 obtain rfl := Option.some.inj H
 exact GoC.retL (ds := [.v (.int .i64 3)]) Try.results38 (ResL.cons (ResD.tmp rfl) (ResL.nil)) (Take.nil _) ⟨rfl, rfl⟩
 replace H := ite_f h4 H
 refine GoC.skip ?_
 refine GoK.code ?_
 refine GoC.seq ?_
 refine GoC.seq ?_
 refine GoC.region ?_
 refine GoO.pure (ps_move rfl rfl) ?_
 refine GoO.pure (ps_move rfl rfl) ?_
 refine GoO.effB (ef_buildSlice (row ([a, b] : List (List (List Int)))) rfl (Parts.cons _ _ _ _ _ _ _ _ ⟨rfl, rfl⟩ (Part.one _ rfl rfl) rfl rfl (Parts.cons _ _ _ _ _ _ _ _ ⟨rfl, rfl⟩ (Part.one _ rfl rfl) rfl rfl (Parts.nil _))) rfl rfl rfl rfl) (fun β5 => ?_)
 have hb := bind_l H; clear H
 obtain ⟨r6, e8, H⟩ := hb
 refine GoO.callF rfl (Take.nil _) (Take.cons _ _ _ _ _ Rem.p0 (Take.nil _)) (slices_Concat_intL_spec ([a, b] : List (List (List Int))) e8) (LendL.cons (Lend.all' At.p0 (by first | rfl | omega | (simp only [subl_length, cpl_length, List.length_set, List.length_append, List.length_cons, List.length_nil, List.length_replicate, row_len] <;> first | rfl | omega)) rfl) (LendL.nil)) rfl no_fps (fun rr HH hp => ?_)
 obtain ⟨β7, rfl, rfl⟩ := hp
 refine GoO.pure (ps_len rfl (by constructor) rfl) ?_
 refine GoO.lenLe (n := r6.length) (x := .tmp 19) rfl (by constructor) own_lenLe (fun ml9 => ?_)
 refine GoO.pure (ps_move rfl rfl) ?_
 refine GoO.nil ?_
 refine GoK.code ?_
 have hb := bind_l H; clear H
 obtain ⟨q12, hl26, HK10⟩ := hb
 refine GoC.blockJ [] [.one β7 30 1 (row r6)] (fun v h => q12 = .go () ∧ v = [] ∧ h = []) ?_ ?_
 refine GoC.loopJ [(0, _), (19, _), (20, _)] [.one β7 30 1 (row r6)] (fun mQ v h => ∃ (k13 : Nat), (k13 + mQ = r6.length ∧ forC (stable_Check_B1 a r6) mQ k13 () = some q12) ∧ v = [(21, .v (.int .i64 ((k13 : Nat) : Int)))] ∧ h = []) r6.length ⟨_, ⟨by omega, hl26⟩, rfl, rfl⟩ (EnvD.eq rfl (EnvD.eq rfl (EnvD.eq rfl (EnvD.eq rfl (EnvD.nil))))) (TkD.cons _ _ _ _ _ Rem.p0 (HLe.refl _) (TkD.nil _)) ?_
 rintro m14 v h ⟨k13, ⟨hkk13, hF11⟩, rfl, rfl⟩
 refine GoC.seq ?_
 refine GoC.region ?_
 refine GoO.pure (ps_lss rfl rfl rfl) ?_
 refine GoO.nil ?_
 refine GoK.code ?_
 refine GoC.seq ?_
 refine GoC.condD rfl (fun (hk13 : (k13 : Int) < ((r6.length : Nat) : Int)) => ?_) (fun (hk13 : ¬ (k13 : Int) < ((r6.length : Nat) : Int)) => ?_)
 obtain ⟨m14', rfl⟩ : ∃ x, m14 = x + 1 := ⟨m14 - 1, by omega⟩
 have hb := bind_l hF11; clear hF11
 obtain ⟨qrm14, H, hF11⟩ := hb
 have hnk13 : k13 < r6.length := by omega
 have hIk13 : InI ((k13 : Int) + 1) := inI_len hk13 ml9
 refine GoC.skip ?_
 refine GoK.code ?_
 refine GoC.seq ?_
 refine GoC.block ?_
 refine GoC.seq ?_
 refine GoC.region ?_
 refine GoO.pure (ps_indexAddr0N rfl rfl hnk13 rfl) ?_
 refine GoO.pure (ps_load rfl At.p0 At.p0 hnk13 rfl rfl) ?_
 refine GoO.pure (ps_assign rfl rfl) ?_
 refine GoO.nil ?_
 refine GoK.code ?_
 refine GoC.seq ?_
 refine GoC.seq ?_
 refine GoC.region ?_
 refine GoO.pure (ps_move rfl rfl) ?_
 refine GoO.pure (ps_len rfl (by constructor) rfl) ?_
 refine GoO.lenLe (n := (r6.getD k13 []).length) (x := .tmp 25) rfl (by constructor) sl_lenLe (fun ml15 => ?_)
 refine GoO.pure (ps_move rfl rfl) ?_
 refine GoO.pure (ps_len rfl (by constructor) rfl) ?_
 refine GoO.pure (ps_neq rfl rfl rfl) ?_
 refine GoO.nil ?_
 refine GoK.code ?_
 refine GoC.condD rfl (fun h16 => ?_) (fun h16 => ?_)
 replace H := ite_t h16 H
 refine GoC.seq ?_
 refine GoC.region ?_
 refine GoO.pure (ps_assign rfl rfl) ?_
 refine GoO.nil ?_
 refine GoK.code ?_
 obtain rfl := Option.some.inj H
 obtain rfl := Option.some.inj hF11
 obtain rfl := Option.some.inj HK10
 exact GoC.retL (ds := [.v (.int .i64 3)]) Try.results38 (ResL.cons (ResD.tmp rfl) (ResL.nil)) (Take.nil _) ⟨rfl, rfl⟩
 replace H := ite_f h16 H
 refine GoC.skip ?_
 refine GoK.code ?_
 refine GoC.seq ?_
 refine GoC.region ?_
 refine GoO.pure (ps_move rfl rfl) ?_
 refine GoO.pure (ps_len rfl (by constructor) rfl) ?_
 refine GoO.pure (ps_move rfl rfl) ?_
 refine GoO.nil ?_
 refine GoK.code ?_
 have hb := bind_l H; clear H
 obtain ⟨q19, hl25, HK17⟩ := hb
 refine GoC.blockJ [(0, slD a), (19, .own β7 1 0 r6.length), (20, .v (.int .i64 ((r6.length : Nat) : Int))), (21, .v (.int .i64 ((k13 : Nat) : Int)))] [.one β7 30 1 (row r6)] (fun v h => q19 = .go () ∧ v = [] ∧ h = []) ?_ ?_
 refine GoC.loopJ [(0, _), (6, _), (19, _), (20, _), (21, _), (31, _)] [.one β7 30 1 (row r6)] (fun mQ v h => ∃ (k20 : Nat), (k20 + mQ = (r6.getD k13 []).length ∧ forC (stable_Check_B2 r6 k13) mQ k20 () = some q19) ∧ v = [(32, .v (.int .i64 ((k20 : Nat) : Int)))] ∧ h = []) ((r6.getD k13 []).length) ⟨_, ⟨by omega, hl25⟩, rfl, rfl⟩ (EnvD.eq rfl (EnvD.eq rfl (EnvD.eq rfl (EnvD.eq rfl (EnvD.eq rfl (EnvD.eq rfl (EnvD.eq rfl (EnvD.nil)))))))) (TkD.cons _ _ _ _ _ Rem.p0 (HLe.refl _) (TkD.nil _)) ?_
 rintro m21 v h ⟨k20, ⟨hkk20, hF18⟩, rfl, rfl⟩
 refine GoC.seq ?_
 refine GoC.region ?_
 refine GoO.pure (ps_lss rfl rfl rfl) ?_
 refine GoO.nil ?_
 refine GoK.code ?_
 refine GoC.seq ?_
 refine GoC.condD rfl (fun (hk20 : (k20 : Int) < (((r6.getD k13 []).length : Nat) : Int)) => ?_) (fun (hk20 : ¬ (k20 : Int) < (((r6.getD k13 []).length : Nat) : Int)) => ?_)
 obtain ⟨m21', rfl⟩ : ∃ x, m21 = x + 1 := ⟨m21 - 1, by omega⟩
 have hb := bind_l hF18; clear hF18
 obtain ⟨qrm21, H, hF18⟩ := hb
 have hnk20 : k20 < (r6.getD k13 []).length := by omega
 have hIk20 : InI ((k20 : Int) + 1) := inI_len hk20 ml15
 refine GoC.skip ?_
 refine GoK.code ?_
 refine GoC.seq ?_
 refine GoC.block ?_
 refine GoC.seq ?_
 refine GoC.region ?_
 refine GoO.pure (ps_move rfl rfl) ?_
 refine GoO.pure (ps_assign rfl rfl) ?_
 refine GoO.nil ?_
 refine GoK.code ?_
 refine GoC.seq ?_
 refine GoC.region ?_
 refine GoO.pure (ps_move rfl rfl) ?_
 refine GoO.pure (ps_move rfl rfl) ?_
 have hb := bind_l H; clear H
 obtain ⟨r22, e23, H⟩ := hb
 refine GoO.effC (ef_call rfl (Take.nil _) (Take.nil _) (slices_Contains_int_spec (r6.getD k13 []) ((k20 : Nat) : Int) e23) (LendL.cons (Lend.refl _ _) (LendL.cons (Lend.refl _ _) (LendL.nil))) rfl (slices_Contains_int_I (r22))) (fun rr HH hp => ?_)
 obtain ⟨rfl, rfl⟩ := hp
 refine GoO.pure (ps_not rfl rfl) ?_
 refine GoO.nil ?_
 refine GoK.code ?_
 refine GoC.cond rfl (fun h24 => ?_) (fun h24 => ?_)
 replace H := itb_t h24 H
 refine GoC.seq ?_
 refine GoC.region ?_
 refine GoO.pure (ps_assign rfl rfl) ?_
 refine GoO.nil ?_
 refine GoK.code ?_
 obtain rfl := Option.some.inj H
 obtain rfl := Option.some.inj hF18
 obtain rfl := Option.some.inj HK17
 obtain rfl := Option.some.inj hF11
 obtain rfl := Option.some.inj HK10
 exact GoC.retL (ds := [.v (.int .i64 3)]) Try.results38 (ResL.cons (ResD.tmp rfl) (ResL.nil)) (Take.nil _) ⟨rfl, rfl⟩
 replace H := itb_f h24 H
 refine GoC.skip ?_
 refine GoK.blk ?_
 refine GoK.code ?_
 refine GoC.region ?_
 refine GoO.pure (ps_add rfl rfl rfl hIk20) ?_
 refine GoO.pure (ps_move rfl rfl) ?_
 refine GoO.nil ?_
 obtain rfl := Option.some.inj H
 exact GoK.againJ m21' (by omega) ⟨_, ⟨by omega, hF18⟩, rfl, rfl⟩ (EnvD.eq rfl (EnvD.eq rfl (EnvD.eq rfl (EnvD.eq rfl (EnvD.eq rfl (EnvD.eq rfl (EnvD.eq rfl (EnvD.nil)))))))) (TkD.cons _ _ _ _ _ Rem.p0 (HLe.refl _) (TkD.nil _))
 obtain rfl : m21 = 0 := by omega
 refine GoC.exit rfl ?_
 cases hF18
 exact GoK.meet ⟨rfl, rfl, rfl⟩ (EnvD.eq rfl (EnvD.eq rfl (EnvD.eq rfl (EnvD.eq rfl (EnvD.nil))))) (TkD.cons _ _ _ _ _ Rem.p0 (HLe.refl _) (TkD.nil _))
 rintro v h ⟨rfl, rfl, rfl⟩
 have H := HK17; clear HK17
 refine GoK.blk ?_
 refine GoK.code ?_
 refine GoC.region ?_
 refine GoO.pure (ps_add rfl rfl rfl hIk13) ?_
 refine GoO.pure (ps_move rfl rfl) ?_
 refine GoO.nil ?_
 obtain rfl := Option.some.inj H
 exact GoK.againJ m14' (by omega) ⟨_, ⟨by omega, hF11⟩, rfl, rfl⟩ (EnvD.eq rfl (EnvD.eq rfl (EnvD.eq rfl (EnvD.eq rfl (EnvD.nil))))) (TkD.cons _ _ _ _ _ Rem.p0 (HLe.refl _) (TkD.nil _))
 obtain rfl : m14 = 0 := by omega
 refine GoC.exit rfl ?_
 cases hF11
 exact GoK.meet ⟨rfl, rfl, rfl⟩ (EnvD.nil) (TkD.cons _ _ _ _ _ Rem.p0 (HLe.refl _) (TkD.nil _))
 rintro v h ⟨rfl, rfl, rfl⟩
 have H := HK10; clear HK10
 refine GoK.code ?_
 refine GoC.seq ?_
 refine GoC.region ?_
 refine GoO.pure (ps_assign rfl rfl) ?_
 refine GoO.nil ?_
 refine GoK.code ?_
 obtain rfl := Option.some.inj H
 exact GoC.retL (ds := [.v (.int .i64 0)]) Try.results38 (ResL.cons (ResD.tmp rfl) (ResL.nil)) (Take.nil _) ⟨rfl, rfl⟩

def stable_Best_B2 (a : (List (List Int))) (b : (List (List Int))) : ((List Int) × (List Int) × Int) → Option (Ct ((List Int) × (List Int) × Int) ((List Int) × (List Int))) := fun (l26, l27, x28) =>
 if 0 ≤ x28 then
  ck (0 ≤ x28 ∧ x28 < ((a.length : Nat) : Int)) <|
  ck (0 ≤ x28 ∧ x28 < ((l27.length : Nat) : Int)) <|
  ck (0 ≤ (l27.getD x28.toNat (0 : Int)) ∧ (l27.getD x28.toNat (0 : Int)) < (((a.getD x28.toNat []).length : Nat) : Int)) <|
  ck (InI ((l27.getD x28.toNat (0 : Int)) + 1)) <|
  ck (0 ≤ ((a.getD x28.toNat []).getD ((l27.getD x28.toNat (0 : Int)).toNat) (0 : Int)) ∧ ((a.getD x28.toNat []).getD ((l27.getD x28.toNat (0 : Int)).toNat) (0 : Int)) < ((l26.length : Nat) : Int)) <|
  if (l26.getD (((a.getD x28.toNat []).getD ((l27.getD x28.toNat (0 : Int)).toNat) (0 : Int)).toNat) (0 : Int)) < 0 then
   some (.go ((l26.set (((a.getD x28.toNat []).getD ((l27.getD x28.toNat (0 : Int)).toNat) (0 : Int)).toNat) x28), (l27.set x28.toNat ((l27.getD x28.toNat (0 : Int)) + 1)), (l26.getD (((a.getD x28.toNat []).getD ((l27.getD x28.toNat (0 : Int)).toNat) (0 : Int)).toNat) (0 : Int))))
  else
   ck (0 ≤ ((a.getD x28.toNat []).getD ((l27.getD x28.toNat (0 : Int)).toNat) (0 : Int)) ∧ ((a.getD x28.toNat []).getD ((l27.getD x28.toNat (0 : Int)).toNat) (0 : Int)) < ((b.length : Nat) : Int)) <|
   (slices_Index_int_F (b.getD (((a.getD x28.toNat []).getD ((l27.getD x28.toNat (0 : Int)).toNat) (0 : Int)).toNat) []) x28).bind fun r44 =>
   (slices_Index_int_F (b.getD (((a.getD x28.toNat []).getD ((l27.getD x28.toNat (0 : Int)).toNat) (0 : Int)).toNat) []) (l26.getD (((a.getD x28.toNat []).getD ((l27.getD x28.toNat (0 : Int)).toNat) (0 : Int)).toNat) (0 : Int))).bind fun r46 =>
   if r44 < r46 then
    some (.go ((l26.set (((a.getD x28.toNat []).getD ((l27.getD x28.toNat (0 : Int)).toNat) (0 : Int)).toNat) x28), (l27.set x28.toNat ((l27.getD x28.toNat (0 : Int)) + 1)), (l26.getD (((a.getD x28.toNat []).getD ((l27.getD x28.toNat (0 : Int)).toNat) (0 : Int)).toNat) (0 : Int))))
   else
    some (.go (l26, (l27.set x28.toNat ((l27.getD x28.toNat (0 : Int)) + 1)), x28))
 else
  some (.brk (l26, l27, x28))
def stable_Best_B1 (a : (List (List Int))) (b : (List (List Int))) : Nat → ((List Int) × (List Int)) → Option ((List Int) × (List Int)) := fun k24 (l17, l18) =>
 (loopC (stable_Best_B2 a b) 1000000 (l17, l18, ((k24 : Nat) : Int))).bind fun q => match q with
 | .go (l32, l33, x34) =>
  some (l32, l33)
 | .ret x => some x
def stable_Best_B3 (l22 : (List Int)) : Nat → (List Int) → Option ((List Int)) := fun k58 l53 =>
 ck (0 ≤ (l22.getD k58 (0 : Int)) ∧ (l22.getD k58 (0 : Int)) < ((l53.length : Nat) : Int)) <|
 some (l53.set ((l22.getD k58 (0 : Int)).toNat) ((k58 : Nat) : Int))
def stable_Best_F (a : (List (List Int))) (b : (List (List Int))) : Option ((List Int) × Int) :=
 (stable_Check_F a b).bind fun r1 =>
 if r1 ≠ 0 then
  some ([], r1)
 else
  (slices_Repeat_int_F ([(-1)] : List Int) ((b.length : Nat) : Int)).bind fun r5 =>
  ck (0 ≤ ((a.length : Nat) : Int) ∧ ((a.length : Nat) : Int) ≤ 10000000000) <|
  (forN (stable_Best_B1 a b) a.length 0 (r5, (List.replicate (((a.length : Nat) : Int).toNat) (0 : Int)))).bind fun (l22, l23) =>
  (forN (stable_Best_B3 l22) l22.length 0 (List.replicate (((a.length : Nat) : Int).toNat) (0 : Int))).bind fun l57 =>
  some (l57, 0)
def stable_Best_P (out : (List Int) × Int) (d : D) (H : List HL) : Prop := ∃ β1 : BK, d = .tp 2 (nth [.own β1 1 0 out.1.length, .v (.int .i64 out.2)]) ∧ H = [.one β1 3 1 (row out.1)]
theorem stable_Best_I (out : (List Int) × Int) : IndepP (stable_Best_P out) := IndepP.of (by rintro _ _ ⟨β1, rfl, rfl⟩; exact ⟨inferInstance, inferInstance⟩)
set_option maxRecDepth 100000 in
set_option maxHeartbeats 4000000 in
theorem stable_Best_spec (a : (List (List Int))) (b : (List (List Int))) {out : (List Int) × Int} (H : stable_Best_F a b = some out) : Does Try.prog 12 [slD a, slD b] [] (stable_Best_P out) := by
 unfold stable_Best_F at H
 refine Does.intro Try.func12 rfl Try.ntmps12 rfl fun w0 I0 => ?_
 refine GoC.seq ?_
 refine GoC.region ?_
 refine GoO.pure (ps_assign rfl rfl) ?_
 refine GoO.pure (ps_assign rfl rfl) ?_
 refine GoO.nil ?_
 refine GoK.code ?_
 refine GoC.seq ?_
 refine GoC.seq ?_
 refine GoC.region ?_
 refine GoO.pure (ps_move rfl rfl) ?_
 refine GoO.pure (ps_move rfl rfl) ?_
 have hb := bind_l H; clear H
 obtain ⟨r1, e2, H⟩ := hb
 refine GoO.effC (ef_call rfl (Take.nil _) (Take.nil _) (stable_Check_spec a b e2) (LendL.cons (Lend.refl _ _) (LendL.cons (Lend.refl _ _) (LendL.nil))) rfl (stable_Check_I (r1))) (fun rr HH hp => ?_)
 obtain ⟨rfl, rfl⟩ := hp
 refine GoO.pure (ps_assign rfl rfl) ?_
 refine GoO.nil ?_
 refine GoK.code ?_
 refine GoC.seq ?_
 refine GoC.region ?_
 refine GoO.pure (ps_move rfl rfl) ?_
 refine GoO.pure (ps_neq rfl rfl rfl) ?_
 refine GoO.nil ?_
 refine GoK.code ?_
 refine GoC.condD rfl (fun h3 => ?_) (fun h3 => ?_)
 replace H := ite_t h3 H
 refine GoC.seq ?_
 refine GoC.region ?_
 refine GoO.pure (ps_move rfl rfl) ?_
 refine GoO.pure (ps_assign rfl rfl) ?_
 refine GoO.pure (ps_assign rfl rfl) ?_
 refine GoO.nil ?_
 refine GoK.code ?_
 obtain rfl := Option.some.inj H
 refine GoC.le (le_row0 3 1 (row ([] : List Int)) rfl) ?_
 exact GoC.retL (ds := [.own ⟨0, 0, 0⟩ 1 0 0, .v (.int .i64 r1)]) Try.results12 (ResL.cons (ResD.le (ResD.tmp rfl) (by exact DLe.nilOwn)) (ResL.cons (ResD.tmp rfl) (ResL.nil))) (Take.cons _ _ _ _ _ Rem.p0 (Take.nil _)) ⟨⟨0, 0, 0⟩, rfl, rfl⟩
 replace H := ite_f h3 H
 refine GoC.skip ?_
 refine GoK.code ?_
 refine GoC.seq ?_
 refine GoC.drawA (.q 1 (.q 2 (.q 4 (.q 5 (.two 0 6 (.two 3 6 (.q 7 (.one 6 (.q 8 (.done)))) (.one 3 (.q 7 (.q 8 (.done))))) (.one 0 (.one 3 (.q 7 (.q 8 (.done)))))))))) follows (by kernel_rfl) ?_
 refine GoP.qN rfl (ps_move rfl rfl) ?_
 refine GoP.qN rfl (ps_len rfl (by constructor) rfl) ?_
 refine GoP.qN rfl (ps_move rfl rfl) ?_
 refine GoP.qN rfl (ps_len rfl (by constructor) rfl) ?_
 have hb := bind_l H; clear H
 obtain ⟨r5, e7, H⟩ := hb
 have c9 := ck_l H; replace H := ck_r H
 apply GoP.fork3
 exact rfl
 exact rfl
 exact trivial
 exact trivial
 exact ef_buildSlice (row ([(-1)] : List Int)) rfl (Parts.cons _ _ _ _ _ _ _ _ ⟨rfl, rfl⟩ (Part.one _ rfl rfl) rfl rfl (Parts.nil _)) rfl rfl rfl rfl
 exact ef_makeZ rfl rfl c9 rfl rfl rfl
 exact (Take.nil _)
 exact (Take.nil _)
 intro hQ
 rintro _ ⟨β10, rfl⟩
 apply GoP.fork2
 exact rfl
 exact rfl
 exact trivial
 exact trivial
 exact ef_call rfl (Take.nil _) (Take.cons _ _ _ _ _ Rem.p0 (Take.nil _)) (slices_Repeat_int_spec ([(-1)] : List Int) ((b.length : Nat) : Int) e7) (LendL.cons (Lend.all' At.p0 (by first | rfl | omega | (simp only [subl_length, cpl_length, List.length_set, List.length_append, List.length_cons, List.length_nil, List.length_replicate, row_len] <;> first | rfl | omega)) rfl) (LendL.cons (Lend.refl _ _) (LendL.nil))) rfl (slices_Repeat_int_I (r5))
 exact ef_makeZ rfl rfl c9 rfl rfl rfl
 exact (Take.nil _)
 exact (Take.nil _)
 intro hQ
 rintro _ ⟨_, _, hp, rfl⟩
 obtain ⟨β6, rfl, rfl⟩ := hp
 refine GoP.qN rfl (ps_assign rfl rfl) ?_
 refine GoP.oneB rfl trivial (ef_makeZ rfl rfl c9 rfl rfl rfl) (Take.nil _) (fun β14 => ?_)
 refine GoP.leD (Le.reH At.p0 (HLe.zeros (α := Int) ⟨trivial, DLe.refl _⟩)) ?_
 refine GoP.qN rfl (ps_assign rfl rfl) ?_
 exact GoP.done (hQ β6 β14)
 intro hQ
 rintro _ ⟨β13, rfl⟩
 refine GoP.leD (Le.reH At.p0 (HLe.zeros (α := Int) ⟨trivial, DLe.refl _⟩)) ?_
 refine GoP.oneC rfl trivial (ef_call rfl (Take.nil _) (Take.cons _ _ _ _ _ Rem.p1 (Take.nil _)) (slices_Repeat_int_spec ([(-1)] : List Int) ((b.length : Nat) : Int) e7) (LendL.cons (Lend.all' At.p0 (by first | rfl | omega | (simp only [subl_length, cpl_length, List.length_set, List.length_append, List.length_cons, List.length_nil, List.length_replicate, row_len] <;> first | rfl | omega)) rfl) (LendL.cons (Lend.refl _ _) (LendL.nil))) rfl (slices_Repeat_int_I (r5))) (Take.nil _) (fun rr HH hp => ?_)
 obtain ⟨β6, rfl, rfl⟩ := hp
 refine GoP.qN rfl (ps_assign rfl rfl) ?_
 refine GoP.qN rfl (ps_assign rfl rfl) ?_
 refine GoP.done (GoK.le ?_ (hQ β6 β13))
 refine Le.ofDW ?_ (TkD.cons _ _ _ _ _ Rem.p1 (HLe.refl _) (TkD.cons _ _ _ _ _ Rem.p0 (HLe.refl _) (TkD.cons _ _ _ _ _ Rem.p0 (HLe.refl _) (TkD.nil _))))
 repeat (first | exact EnvLeW.nil | refine EnvLeW.cons rfl ?_ | refine EnvLeW.skip rfl ?_)
 intro β6 β14
 exact (hQ β10 β6 β14)
 intro hQ
 rintro _ ⟨β11, rfl⟩
 refine GoP.leD (Le.reH At.p0 (HLe.zeros (α := Int) ⟨trivial, DLe.refl _⟩)) ?_
 refine GoP.oneB rfl trivial (ef_buildSlice (row ([(-1)] : List Int)) rfl (Parts.cons _ _ _ _ _ _ _ _ ⟨rfl, rfl⟩ (Part.one _ rfl rfl) rfl rfl (Parts.nil _)) rfl rfl rfl rfl) (Take.nil _) (fun β15 => ?_)
 refine GoP.oneC rfl trivial (ef_call rfl (Take.nil _) (Take.cons _ _ _ _ _ Rem.p0 (Take.nil _)) (slices_Repeat_int_spec ([(-1)] : List Int) ((b.length : Nat) : Int) e7) (LendL.cons (Lend.all' At.p0 (by first | rfl | omega | (simp only [subl_length, cpl_length, List.length_set, List.length_append, List.length_cons, List.length_nil, List.length_replicate, row_len] <;> first | rfl | omega)) rfl) (LendL.cons (Lend.refl _ _) (LendL.nil))) rfl (slices_Repeat_int_I (r5))) (Take.nil _) (fun rr HH hp => ?_)
 obtain ⟨β6, rfl, rfl⟩ := hp
 refine GoP.qN rfl (ps_assign rfl rfl) ?_
 refine GoP.qN rfl (ps_assign rfl rfl) ?_
 refine GoP.done (GoK.le ?_ (hQ β15 β6 β11))
 refine Le.ofDW ?_ (TkD.cons _ _ _ _ _ Rem.p2 (HLe.refl _) (TkD.cons _ _ _ _ _ Rem.p0 (HLe.refl _) (TkD.cons _ _ _ _ _ Rem.p0 (HLe.refl _) (TkD.nil _))))
 repeat (first | exact EnvLeW.nil | refine EnvLeW.cons rfl ?_ | refine EnvLeW.skip rfl ?_)
 intro β10 β6 β14
 refine GoK.code ?_
 refine GoC.seq ?_
 refine GoC.seq ?_
 refine GoC.region ?_
 refine GoO.pure (ps_move rfl rfl) ?_
 refine GoO.pure (ps_len rfl (by constructor) rfl) ?_
 refine GoO.lenLe (n := a.length) (x := .tmp 28) rfl (by constructor) sl_lenLe (fun ml16 => ?_)
 refine GoO.pure (ps_move rfl rfl) ?_
 refine GoO.nil ?_
 refine GoK.code ?_
 have hb := bind_l H; clear H
 obtain ⟨⟨l22, l23⟩, hl50, HK19⟩ := hb
 refine GoC.blockJ [(0, slD a)] [.one β10 3 1 (row ([(-1)] : List Int))] (fun v h => v = [(7, .own β6 1 0 l22.length)] ∧ h = [.one β6 3 1 (row l22), .one β14 3 1 (row l23)]) ?_ ?_
 refine GoC.loopJ [(0, _), (1, _), (29, _)] [.one β10 3 1 (row ([(-1)] : List Int))] (fun mQ v h => ∃ (k24 : Nat) (l17 : (List Int)) (l18 : (List Int)), (k24 + mQ = a.length ∧ forN (stable_Best_B1 a b) mQ k24 (l17, l18) = some (l22, l23)) ∧ v = [(30, .v (.int .i64 ((k24 : Nat) : Int))), (7, .own β6 1 0 l17.length), (8, .own β14 1 0 l18.length)] ∧ h = [.one β6 3 1 (row l17), .one β14 3 1 (row l18)]) a.length ⟨_, _, _, ⟨by omega, hl50⟩, rfl, rfl⟩ (EnvD.eq rfl (EnvD.cons rfl (DLe.len (by first | rfl | omega | (simp only [row_len, gridC_len, rowO_len] <;> first | rfl | omega))) (EnvD.cons rfl (DLe.len (by first | rfl | omega | (simp only [row_len, gridC_len, rowO_len, List.length_replicate] <;> first | rfl | omega))) (EnvD.eq rfl (EnvD.eq rfl (EnvD.eq rfl (EnvD.nil))))))) (TkD.cons _ _ _ _ _ Rem.p1 (HLe.refl _) (TkD.cons _ _ _ _ _ Rem.p0 (HLe.refl _) (TkD.cons _ _ _ _ _ Rem.p0 (HLe.refl _) (TkD.nil _)))) ?_
 rintro m25 v h ⟨k24, l17, l18, ⟨hkk24, hF20⟩, rfl, rfl⟩
 refine GoC.seq ?_
 refine GoC.region ?_
 refine GoO.pure (ps_lss rfl rfl rfl) ?_
 refine GoO.nil ?_
 refine GoK.code ?_
 refine GoC.seq ?_
 refine GoC.condD rfl (fun (hk24 : (k24 : Int) < ((a.length : Nat) : Int)) => ?_) (fun (hk24 : ¬ (k24 : Int) < ((a.length : Nat) : Int)) => ?_)
 obtain ⟨m25', rfl⟩ : ∃ x, m25 = x + 1 := ⟨m25 - 1, by omega⟩
 have hb := bind_l hF20; clear hF20
 obtain ⟨qrm25, H, hF20⟩ := hb
 have hnk24 : k24 < a.length := by omega
 have hIk24 : InI ((k24 : Int) + 1) := inI_len hk24 ml16
 refine GoC.skip ?_
 refine GoK.code ?_
 refine GoC.seq ?_
 refine GoC.block ?_
 refine GoC.seq ?_
 refine GoC.region ?_
 refine GoO.pure (ps_move rfl rfl) ?_
 refine GoO.pure (ps_assign rfl rfl) ?_
 refine GoO.nil ?_
 refine GoK.code ?_
 refine GoC.seq ?_
 refine GoC.region ?_
 refine GoO.pure (ps_move rfl rfl) ?_
 refine GoO.pure (ps_assign rfl rfl) ?_
 refine GoO.nil ?_
 refine GoK.code ?_
 have hb := bind_l H; clear H
 obtain ⟨q31, hl49, HK29⟩ := hb
 refine GoC.blockJ [(0, slD a), (1, slD b), (29, .v (.int .i64 ((a.length : Nat) : Int))), (30, .v (.int .i64 ((k24 : Nat) : Int)))] [.one β10 3 1 (row ([(-1)] : List Int))] (fun v h => ∃ (l32 : (List Int)) (l33 : (List Int)) (x34 : Int), q31 = .go (l32, l33, x34) ∧ v = [(7, .own β6 1 0 l32.length), (8, .own β14 1 0 l33.length)] ∧ h = [.one β6 3 1 (row l32), .one β14 3 1 (row l33)]) ?_ ?_
 refine GoC.loopJ [(0, _), (1, _), (29, _), (30, _)] [.one β10 3 1 (row ([(-1)] : List Int))] (fun mQ v h => ∃ (l26 : (List Int)) (l27 : (List Int)) (x28 : Int), loopC (stable_Best_B2 a b) mQ (l26, l27, x28) = some q31 ∧ v = [(7, .own β6 1 0 l26.length), (8, .own β14 1 0 l27.length), (10, .v (.int .i64 x28))] ∧ h = [.one β6 3 1 (row l26), .one β14 3 1 (row l27)]) 1000000 ⟨_, _, _, hl49, rfl, rfl⟩ (EnvD.cons rfl (DLe.len (by first | rfl | omega | (simp only [row_len, gridC_len, rowO_len] <;> first | rfl | omega))) (EnvD.cons rfl (DLe.len (by first | rfl | omega | (simp only [row_len, gridC_len, rowO_len] <;> first | rfl | omega))) (EnvD.eq rfl (EnvD.eq rfl (EnvD.eq rfl (EnvD.eq rfl (EnvD.eq rfl (EnvD.nil)))))))) (TkD.cons _ _ _ _ _ Rem.p0 (HLe.refl _) (TkD.cons _ _ _ _ _ Rem.p0 (HLe.refl _) (TkD.cons _ _ _ _ _ Rem.p0 (HLe.refl _) (TkD.nil _)))) ?_
 rintro m35 v h ⟨l26, l27, x28, hF30, rfl, rfl⟩
 obtain ⟨m35', rfl⟩ | rfl : (∃ x, m35 = x + 1) ∨ m35 = 0 := by cases m35 <;> simp
 case inr => cases hF30
 have hb := bind_l hF30; clear hF30
 obtain ⟨qrm35, H, hF30⟩ := hb
 refine GoC.seq ?_
 refine GoC.seq ?_
 refine GoC.region ?_
 refine GoO.pure (ps_move rfl rfl) ?_
 refine GoO.pure (ps_geq rfl rfl rfl) ?_
 refine GoO.nil ?_
 refine GoK.code ?_
 refine GoC.condD rfl (fun h36 => ?_) (fun h36 => ?_)
 replace H := ite_t h36 H
 refine GoC.skip ?_
 refine GoK.code ?_
 refine GoC.block ?_
 refine GoC.seq ?_
 refine GoC.drawA (.q 0 (.q 1 (.q 2 (.q 3 (.q 4 (.q 5 (.q 6 (.q 7 (.q 8 (.q 9 (.q 10 (.done)))))))))))) follows (by kernel_rfl) ?_
 refine GoP.qN rfl (ps_move rfl rfl) ?_
 refine GoP.qN rfl (ps_move rfl rfl) ?_
 have c37 := ck_l H; replace H := ck_r H
 refine GoP.qN rfl (ps_indexAddrR rfl rfl c37 rfl) ?_
 refine GoP.qN rfl (ps_loadR rfl (idx_lt c37) rfl rfl) ?_
 refine GoP.qN rfl (ps_move rfl rfl) ?_
 refine GoP.qN rfl (ps_move rfl rfl) ?_
 have c38 := ck_l H; replace H := ck_r H
 refine GoP.qN rfl (ps_indexAddr0 rfl rfl c38 rfl) ?_
 refine GoP.qN rfl (ps_load rfl At.p1 At.p1 (idx_lt c38) rfl rfl) ?_
 have c39 := ck_l H; replace H := ck_r H
 refine GoP.qN rfl (ps_indexAddrR rfl rfl c39 rfl) ?_
 refine GoP.qN rfl (ps_loadR rfl (idx_lt c39) rfl rfl) ?_
 refine GoP.qN rfl (ps_assign rfl rfl) ?_
 refine GoP.done ?_
 refine GoK.code ?_
 refine GoC.seq ?_
 refine GoC.region ?_
 refine GoO.pure (ps_move rfl rfl) ?_
 refine GoO.pure (ps_move rfl rfl) ?_
 refine GoO.pure (ps_indexAddr0 rfl rfl c38 rfl) ?_
 refine GoO.pure (ps_load rfl At.p1 At.p1 (idx_lt c38) rfl rfl) ?_
 have c40 := ck_l H; replace H := ck_r H
 refine GoO.pure (ps_add rfl rfl rfl c40) ?_
 refine GoO.pure (ps_indexAddr0 rfl rfl c38 rfl) ?_
 refine GoO.eff1 (ef_store rfl rfl rfl At.p1 (upd_row1 (v := ((l27.getD x28.toNat (0 : Int)) + 1)) rfl) (idx_lt c38) rfl) ?_
 refine GoO.nil ?_
 refine GoK.code ?_
 refine GoC.seq ?_
 refine GoC.drawA (.q 0 (.q 1 (.q 2 (.q 3 (.q 4 (.q 5 (.q 6 (.q 7 (.q 8 (.q 9 (.q 10 (.q 12 (.q 13 (.q 14 (.q 15 (.q 16 (.q 17 (.q 18 (.q 19 (.one 11 (.one 20 (.q 21 (.q 22 (.done)))))))))))))))))))))))) follows (by kernel_rfl) ?_
 refine GoP.qN rfl (ps_move rfl rfl) ?_
 refine GoP.qN rfl (ps_move rfl rfl) ?_
 have c41 := ck_l H; replace H := ck_r H
 refine GoP.qN rfl (ps_indexAddr0 rfl rfl c41 rfl) ?_
 refine GoP.qN rfl (ps_load rfl At.p0 At.p0 (idx_lt c41) rfl rfl) ?_
 refine GoP.qN rfl (ps_lss rfl rfl rfl) ?_
 refine GoP.qN rfl (ps_move rfl rfl) ?_
 refine GoP.decideD 57 rfl (fun h42 => ?_) (fun h42 => ?_)
 replace H := ite_t h42 H
 refine GoP.qF rfl rfl rfl rfl rfl ?_
 refine GoP.qF rfl rfl rfl rfl rfl ?_
 refine GoP.qF rfl rfl rfl rfl rfl ?_
 refine GoP.qF rfl rfl rfl rfl rfl ?_
 refine GoP.qF rfl rfl rfl rfl rfl ?_
 refine GoP.qF rfl rfl rfl rfl rfl ?_
 refine GoP.qF rfl rfl rfl rfl rfl ?_
 refine GoP.qF rfl rfl rfl rfl rfl ?_
 refine GoP.qF rfl rfl rfl rfl rfl ?_
 refine GoP.qF rfl rfl rfl rfl rfl ?_
 refine GoP.qF rfl rfl rfl rfl rfl ?_
 refine GoP.qF rfl rfl rfl rfl rfl ?_
 refine GoP.qF rfl rfl rfl rfl rfl ?_
 refine GoP.oneF rfl rfl rfl rfl rfl ?_
 refine GoP.oneF rfl rfl rfl rfl rfl ?_
 refine GoP.qF rfl rfl rfl rfl rfl ?_
 refine GoP.qN rfl (ps_pickT rfl rfl rfl) ?_
 refine GoP.done ?_
 refine GoK.code ?_
 refine GoC.condT rfl ?_
 refine GoC.region ?_
 refine GoO.pure (ps_move rfl rfl) ?_
 refine GoO.pure (ps_move rfl rfl) ?_
 refine GoO.pure (ps_move rfl rfl) ?_
 refine GoO.pure (ps_move rfl rfl) ?_
 refine GoO.pure (ps_move rfl rfl) ?_
 refine GoO.pure (ps_indexAddr0 rfl rfl c41 rfl) ?_
 refine GoO.pure (ps_load rfl At.p0 At.p0 (idx_lt c41) rfl rfl) ?_
 refine GoO.pure (ps_indexAddr0 rfl rfl c41 rfl) ?_
 refine GoO.eff1 (ef_store rfl rfl rfl At.p0 (upd_row1 (v := x28) rfl) (idx_lt c41) rfl) ?_
 refine GoO.pure (ps_assign rfl rfl) ?_
 refine GoO.nil ?_
 refine GoK.blk ?_
 obtain rfl := Option.some.inj H
 exact GoK.againJ m35' (by omega) ⟨_, _, _, hF30, rfl, rfl⟩ (EnvD.cons rfl (DLe.len (by first | rfl | omega | (simp only [row_len, gridC_len, rowO_len, List.length_set, List.length_cons, List.length_nil, List.length_nil] <;> first | rfl | omega))) (EnvD.cons rfl (DLe.len (by first | rfl | omega | (simp only [row_len, gridC_len, rowO_len, List.length_set] <;> first | rfl | omega))) (EnvD.eq rfl (EnvD.eq rfl (EnvD.eq rfl (EnvD.eq rfl (EnvD.eq rfl (EnvD.nil)))))))) (TkD.cons _ _ _ _ _ Rem.p0 (HLe.refl _) (TkD.cons _ _ _ _ _ Rem.p0 (HLe.refl _) (TkD.cons _ _ _ _ _ Rem.p0 (HLe.refl _) (TkD.nil _))))
 replace H := ite_f h42 H
 refine GoP.qT rfl rfl rfl rfl (ps_move rfl rfl) ?_
 refine GoP.qT rfl rfl rfl rfl (ps_move rfl rfl) ?_
 have c43 := ck_l H; replace H := ck_r H
 refine GoP.qT rfl rfl rfl rfl (ps_indexAddrR rfl rfl c43 rfl) ?_
 refine GoP.qT rfl rfl rfl rfl (ps_loadR rfl (idx_lt c43) rfl rfl) ?_
 refine GoP.qT rfl rfl rfl rfl (ps_move rfl rfl) ?_
 refine GoP.qT rfl rfl rfl rfl (ps_move rfl rfl) ?_
 refine GoP.qT rfl rfl rfl rfl (ps_move rfl rfl) ?_
 refine GoP.qT rfl rfl rfl rfl (ps_indexAddrR rfl rfl c43 rfl) ?_
 refine GoP.qT rfl rfl rfl rfl (ps_loadR rfl (idx_lt c43) rfl rfl) ?_
 refine GoP.qT rfl rfl rfl rfl (ps_move rfl rfl) ?_
 refine GoP.qT rfl rfl rfl rfl (ps_move rfl rfl) ?_
 refine GoP.qT rfl rfl rfl rfl (ps_indexAddr0 rfl rfl c41 rfl) ?_
 refine GoP.qT rfl rfl rfl rfl (ps_load rfl At.p0 At.p0 (idx_lt c41) rfl rfl) ?_
 have hb := bind_l H; clear H
 obtain ⟨r44, e45, H⟩ := hb
 refine GoP.oneC rfl ⟨_, rfl, rfl, rfl⟩ (ef_call rfl (Take.nil _) (Take.nil _) (slices_Index_int_spec (b.getD (((a.getD x28.toNat []).getD ((l27.getD x28.toNat (0 : Int)).toNat) (0 : Int)).toNat) []) x28 e45) (LendL.cons (Lend.refl _ _) (LendL.cons (Lend.refl _ _) (LendL.nil))) rfl (slices_Index_int_I (r44))) (Take.cons _ _ _ _ _ Rem.p0 (Take.cons _ _ _ _ _ Rem.p0 (Take.cons _ _ _ _ _ Rem.p0 (Take.nil _)))) (fun rr HH hp => ?_)
 obtain ⟨rfl, rfl⟩ := hp
 have hb := bind_l H; clear H
 obtain ⟨r46, e47, H⟩ := hb
 refine GoP.oneC rfl ⟨_, rfl, rfl, rfl⟩ (ef_call rfl (Take.nil _) (Take.nil _) (slices_Index_int_spec (b.getD (((a.getD x28.toNat []).getD ((l27.getD x28.toNat (0 : Int)).toNat) (0 : Int)).toNat) []) (l26.getD (((a.getD x28.toNat []).getD ((l27.getD x28.toNat (0 : Int)).toNat) (0 : Int)).toNat) (0 : Int)) e47) (LendL.cons (Lend.refl _ _) (LendL.cons (Lend.refl _ _) (LendL.nil))) rfl (slices_Index_int_I (r46))) (Take.cons _ _ _ _ _ Rem.p0 (Take.cons _ _ _ _ _ Rem.p0 (Take.cons _ _ _ _ _ Rem.p0 (Take.nil _)))) (fun rr HH hp => ?_)
 obtain ⟨rfl, rfl⟩ := hp
 refine GoP.qT rfl rfl rfl rfl (ps_lss rfl rfl rfl) ?_
 refine GoP.qN rfl (ps_pickF rfl rfl rfl) ?_
 refine GoP.done ?_
 refine GoK.code ?_
 refine GoC.condD rfl (fun h48 => ?_) (fun h48 => ?_)
 replace H := ite_t h48 H
 refine GoC.region ?_
 refine GoO.pure (ps_move rfl rfl) ?_
 refine GoO.pure (ps_move rfl rfl) ?_
 refine GoO.pure (ps_move rfl rfl) ?_
 refine GoO.pure (ps_move rfl rfl) ?_
 refine GoO.pure (ps_move rfl rfl) ?_
 refine GoO.pure (ps_indexAddr0 rfl rfl c41 rfl) ?_
 refine GoO.pure (ps_load rfl At.p0 At.p0 (idx_lt c41) rfl rfl) ?_
 refine GoO.pure (ps_indexAddr0 rfl rfl c41 rfl) ?_
 refine GoO.eff1 (ef_store rfl rfl rfl At.p0 (upd_row1 (v := x28) rfl) (idx_lt c41) rfl) ?_
 refine GoO.pure (ps_assign rfl rfl) ?_
 refine GoO.nil ?_
 refine GoK.blk ?_
 obtain rfl := Option.some.inj H
 exact GoK.againJ m35' (by omega) ⟨_, _, _, hF30, rfl, rfl⟩ (EnvD.cons rfl (DLe.len (by first | rfl | omega | (simp only [row_len, gridC_len, rowO_len, List.length_set, List.length_cons, List.length_nil, List.length_nil] <;> first | rfl | omega))) (EnvD.cons rfl (DLe.len (by first | rfl | omega | (simp only [row_len, gridC_len, rowO_len, List.length_set] <;> first | rfl | omega))) (EnvD.eq rfl (EnvD.eq rfl (EnvD.eq rfl (EnvD.eq rfl (EnvD.eq rfl (EnvD.nil)))))))) (TkD.cons _ _ _ _ _ Rem.p0 (HLe.refl _) (TkD.cons _ _ _ _ _ Rem.p0 (HLe.refl _) (TkD.cons _ _ _ _ _ Rem.p0 (HLe.refl _) (TkD.nil _))))
 replace H := ite_f h48 H
 refine GoC.skip ?_
 refine GoK.blk ?_
 obtain rfl := Option.some.inj H
 exact GoK.againJ m35' (by omega) ⟨_, _, _, hF30, rfl, rfl⟩ (EnvD.eq rfl (EnvD.cons rfl (DLe.len (by first | rfl | omega | (simp only [row_len, gridC_len, rowO_len, List.length_set] <;> first | rfl | omega))) (EnvD.eq rfl (EnvD.eq rfl (EnvD.eq rfl (EnvD.eq rfl (EnvD.eq rfl (EnvD.nil)))))))) (TkD.cons _ _ _ _ _ Rem.p0 (HLe.refl _) (TkD.cons _ _ _ _ _ Rem.p0 (HLe.refl _) (TkD.cons _ _ _ _ _ Rem.p0 (HLe.refl _) (TkD.nil _))))
 replace H := ite_f h36 H
 refine GoC.exit rfl ?_
 obtain rfl := Option.some.inj H
 obtain rfl := Option.some.inj hF30
 exact GoK.meet ⟨_, _, _, rfl, rfl, rfl⟩ (EnvD.cons rfl (DLe.len (by first | rfl | omega | (simp only [row_len, gridC_len, rowO_len] <;> first | rfl | omega))) (EnvD.cons rfl (DLe.len (by first | rfl | omega | (simp only [row_len, gridC_len, rowO_len] <;> first | rfl | omega))) (EnvD.eq rfl (EnvD.eq rfl (EnvD.eq rfl (EnvD.eq rfl (EnvD.nil))))))) (TkD.cons _ _ _ _ _ Rem.p0 (HLe.refl _) (TkD.cons _ _ _ _ _ Rem.p0 (HLe.refl _) (TkD.cons _ _ _ _ _ Rem.p0 (HLe.refl _) (TkD.nil _))))
 rintro v h ⟨l32, l33, x34, rfl, rfl, rfl⟩
 have H := HK29; clear HK29
 refine GoK.blk ?_
 refine GoK.code ?_
 refine GoC.region ?_
 refine GoO.pure (ps_add rfl rfl rfl hIk24) ?_
 refine GoO.pure (ps_move rfl rfl) ?_
 refine GoO.nil ?_
 obtain rfl := Option.some.inj H
 exact GoK.againJ m25' (by omega) ⟨_, _, _, ⟨by omega, hF20⟩, rfl, rfl⟩ (EnvD.eq rfl (EnvD.cons rfl (DLe.len (by first | rfl | omega | (simp only [row_len, gridC_len, rowO_len] <;> first | rfl | omega))) (EnvD.cons rfl (DLe.len (by first | rfl | omega | (simp only [row_len, gridC_len, rowO_len] <;> first | rfl | omega))) (EnvD.eq rfl (EnvD.eq rfl (EnvD.eq rfl (EnvD.nil))))))) (TkD.cons _ _ _ _ _ Rem.p0 (HLe.refl _) (TkD.cons _ _ _ _ _ Rem.p0 (HLe.refl _) (TkD.cons _ _ _ _ _ Rem.p0 (HLe.refl _) (TkD.nil _))))
 obtain rfl : m25 = 0 := by omega
 refine GoC.exit rfl ?_
 cases hF20
 exact GoK.meet ⟨rfl, rfl⟩ (EnvD.cons rfl (DLe.len (by first | rfl | omega | (simp only [row_len, gridC_len, rowO_len] <;> first | rfl | omega))) (EnvD.eq rfl (EnvD.nil))) (TkD.cons _ _ _ _ _ Rem.p0 (HLe.refl _) (TkD.cons _ _ _ _ _ Rem.p0 (HLe.refl _) (TkD.cons _ _ _ _ _ Rem.p0 (HLe.refl _) (TkD.nil _))))
 rintro v h ⟨rfl, rfl⟩
 have H := HK19; clear HK19
 refine GoK.code ?_
 refine GoC.seq ?_
 refine GoC.region ?_
 refine GoO.pure (ps_move rfl rfl) ?_
 refine GoO.pure (ps_len rfl (by constructor) rfl) ?_
 refine GoO.effB (ef_makeZ rfl rfl c9 rfl rfl rfl) (fun β51 => ?_)
 refine GoO.le (Le.reH At.p0 (HLe.zeros (α := Int) ⟨trivial, DLe.refl _⟩)) ?_
 refine GoO.pure (ps_assign rfl rfl) ?_
 refine GoO.nil ?_
 refine GoK.code ?_
 refine GoC.seq ?_
 refine GoC.seq ?_
 refine GoC.region ?_
 refine GoO.pure (ps_move rfl rfl) ?_
 refine GoO.pure (ps_len rfl (by constructor) rfl) ?_
 refine GoO.lenLe (n := l22.length) (x := .tmp 87) rfl (by constructor) own_lenLe (fun ml52 => ?_)
 refine GoO.pure (ps_move rfl rfl) ?_
 refine GoO.nil ?_
 refine GoK.code ?_
 have hb := bind_l H; clear H
 obtain ⟨l57, hl61, HK54⟩ := hb
 refine GoC.blockJ [] [.one β6 3 1 (row l22), .one β14 3 1 (row l23), .one β10 3 1 (row ([(-1)] : List Int))] (fun v h => v = [(12, .own β51 1 0 l57.length)] ∧ h = [.one β51 3 1 (row l57)]) ?_ ?_
 refine GoC.loopJ [(87, _), (88, _)] [.one β6 3 1 (row l22), .one β14 3 1 (row l23), .one β10 3 1 (row ([(-1)] : List Int))] (fun mQ v h => ∃ (k58 : Nat) (l53 : (List Int)), (k58 + mQ = l22.length ∧ forN (stable_Best_B3 l22) mQ k58 l53 = some l57) ∧ v = [(89, .v (.int .i64 ((k58 : Nat) : Int))), (12, .own β51 1 0 l53.length)] ∧ h = [.one β51 3 1 (row l53)]) l22.length ⟨_, _, ⟨by omega, hl61⟩, rfl, rfl⟩ (EnvD.eq rfl (EnvD.cons rfl (DLe.len (by first | rfl | omega | (simp only [row_len, gridC_len, rowO_len, List.length_replicate] <;> first | rfl | omega))) (EnvD.eq rfl (EnvD.eq rfl (EnvD.nil))))) (TkD.cons _ _ _ _ _ Rem.p0 (HLe.refl _) (TkD.cons _ _ _ _ _ Rem.p0 (HLe.refl _) (TkD.cons _ _ _ _ _ Rem.p0 (HLe.refl _) (TkD.cons _ _ _ _ _ Rem.p0 (HLe.refl _) (TkD.nil _))))) ?_
 rintro m59 v h ⟨k58, l53, ⟨hkk58, hF55⟩, rfl, rfl⟩
 refine GoC.seq ?_
 refine GoC.region ?_
 refine GoO.pure (ps_lss rfl rfl rfl) ?_
 refine GoO.nil ?_
 refine GoK.code ?_
 refine GoC.seq ?_
 refine GoC.condD rfl (fun (hk58 : (k58 : Int) < ((l22.length : Nat) : Int)) => ?_) (fun (hk58 : ¬ (k58 : Int) < ((l22.length : Nat) : Int)) => ?_)
 obtain ⟨m59', rfl⟩ : ∃ x, m59 = x + 1 := ⟨m59 - 1, by omega⟩
 have hb := bind_l hF55; clear hF55
 obtain ⟨qrm59, H, hF55⟩ := hb
 have hnk58 : k58 < l22.length := by omega
 have hIk58 : InI ((k58 : Int) + 1) := inI_len hk58 ml52
 refine GoC.skip ?_
 refine GoK.code ?_
 refine GoC.seq ?_
 refine GoC.block ?_
 refine GoC.seq ?_
 refine GoC.region ?_
 refine GoO.pure (ps_move rfl rfl) ?_
 refine GoO.pure (ps_indexAddr0N rfl rfl hnk58 rfl) ?_
 refine GoO.pure (ps_load rfl At.p1 At.p1 hnk58 rfl rfl) ?_
 refine GoO.pure (ps_assign rfl rfl) ?_
 refine GoO.pure (ps_assign rfl rfl) ?_
 refine GoO.nil ?_
 refine GoK.code ?_
 refine GoC.region ?_
 refine GoO.pure (ps_move rfl rfl) ?_
 refine GoO.pure (ps_move rfl rfl) ?_
 refine GoO.pure (ps_move rfl rfl) ?_
 have c60 := ck_l H; replace H := ck_r H
 refine GoO.pure (ps_indexAddr0 rfl rfl c60 rfl) ?_
 refine GoO.eff1 (ef_store rfl rfl rfl At.p0 (upd_row1 (v := ((k58 : Nat) : Int)) rfl) (idx_lt c60) rfl) ?_
 refine GoO.nil ?_
 refine GoK.blk ?_
 refine GoK.code ?_
 refine GoC.region ?_
 refine GoO.pure (ps_add rfl rfl rfl hIk58) ?_
 refine GoO.pure (ps_move rfl rfl) ?_
 refine GoO.nil ?_
 obtain rfl := Option.some.inj H
 exact GoK.againJ m59' (by omega) ⟨_, _, ⟨by omega, hF55⟩, rfl, rfl⟩ (EnvD.eq rfl (EnvD.cons rfl (DLe.len (by first | rfl | omega | (simp only [row_len, gridC_len, rowO_len, List.length_set] <;> first | rfl | omega))) (EnvD.eq rfl (EnvD.eq rfl (EnvD.nil))))) (TkD.cons _ _ _ _ _ Rem.p0 (HLe.refl _) (TkD.cons _ _ _ _ _ Rem.p0 (HLe.refl _) (TkD.cons _ _ _ _ _ Rem.p0 (HLe.refl _) (TkD.cons _ _ _ _ _ Rem.p0 (HLe.refl _) (TkD.nil _)))))
 obtain rfl : m59 = 0 := by omega
 refine GoC.exit rfl ?_
 cases hF55
 exact GoK.meet ⟨rfl, rfl⟩ (EnvD.cons rfl (DLe.len (by first | rfl | omega | (simp only [row_len, gridC_len, rowO_len] <;> first | rfl | omega))) (EnvD.nil)) (TkD.cons _ _ _ _ _ Rem.p0 (HLe.refl _) (TkD.cons _ _ _ _ _ Rem.p0 (HLe.refl _) (TkD.cons _ _ _ _ _ Rem.p0 (HLe.refl _) (TkD.cons _ _ _ _ _ Rem.p0 (HLe.refl _) (TkD.nil _)))))
 rintro v h ⟨rfl, rfl⟩
 have H := HK54; clear HK54
 refine GoK.code ?_
 refine GoC.seq ?_
 refine GoC.region ?_
 refine GoO.pure (ps_move rfl rfl) ?_
 refine GoO.pure (ps_assign rfl rfl) ?_
 refine GoO.pure (ps_assign rfl rfl) ?_
 refine GoO.nil ?_
 refine GoK.code ?_
 obtain rfl := Option.some.inj H
 exact GoC.retL (ds := [.own β51 1 0 l57.length, .v (.int .i64 0)]) Try.results12 (ResL.cons (ResD.tmp rfl) (ResL.cons (ResD.tmp rfl) (ResL.nil))) (Take.cons _ _ _ _ _ Rem.p0 (Take.nil _)) ⟨β51, rfl, rfl⟩

end Go.Proofs.Ytlpelkfcmeapiaa
