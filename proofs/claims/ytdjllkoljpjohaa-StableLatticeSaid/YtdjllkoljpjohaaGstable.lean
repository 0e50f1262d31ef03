/- The functions stable.Check, stable.checkPairs, stable.Pair, stable.refused, stable.Both, told as plain functions, and that the code does as they say. -/
import Derived.Test.YtdjllkoljpjohaaTys
import Derived.Test.YtdjllkoljpjohaaDat
import Derived.Test.YtdjllkoljpjohaaGslices
namespace Go.Proofs.Ytdjllkoljpjohaa
open Go Go.Proofs.Ytdjllkoljpjohaa.Sx
set_option linter.unusedVariables false
set_option linter.unusedSimpArgs false
def stable_Check_B2 (r6 : (List (List Int))) (k13 : Nat) : Nat → Unit → Option (Ct (Unit) (Ct (Unit) (Int))) := fun k20 _ =>
 (slices_Contains_int_F (r6.getD k13 []) ((k20 : Nat) : Int)).bind fun r22 =>
 if (!r22) = true then
  some (.ret (.ret 3))
 else
  some (.go ())
def stable_Check_B1 (a : (List (List Int))) (r6 : (List (List Int))) : Nat → Unit → Option (Ct (Unit) (Int)) := fun k13 _ =>
 if (((r6.getD k13 []).length : Nat) : Int) ≠ ((a.length : Nat) : Int) then
  some (.ret 3)
 else
  (forC (stable_Check_B2 r6 k13) ((r6.getD k13 []).length) 0 ()).bind fun q => match q with
  | .go _ =>
   some (.go ())
  | .ret x => some x
def stable_Check_F (a : (List (List Int))) (b : (List (List Int))) : Option (Int) :=
 if 6 < ((a.length : Nat) : Int) then
  some 2
 else
  if ((b.length : Nat) : Int) ≠ ((a.length : Nat) : Int) then
   some 3
  else
   (slices_Concat_intL_F ([a, b] : List (List (List Int)))).bind fun r6 =>
   (forC (stable_Check_B1 a r6) r6.length 0 ()).bind fun q => match q with
   | .go _ =>
    some 0
   | .ret x => some x
def stable_Check_P (out : Int) (d : D) (H : List HL) : Prop := d = .v (.int .i64 out) ∧ H = []
theorem stable_Check_I (out : Int) : IndepP (stable_Check_P out) := IndepP.of (by rintro _ _ ⟨rfl, rfl⟩; exact ⟨inferInstance, inferInstance⟩)
set_option maxRecDepth 100000 in
set_option maxHeartbeats 4000000 in
theorem stable_Check_spec (a : (List (List Int))) (b : (List (List Int))) {out : Int} (H : stable_Check_F a b = some out) : Does Try.prog 50 [slD a, slD b] [] (stable_Check_P out) := by
 unfold stable_Check_F at H
 refine Does.intro Try.func50 rfl Try.ntmps50 rfl fun w0 I0 => ?_
 refine GoC.seq ?_
 refine GoC.region ?_
 refine GoO.pure (ps_assign rfl rfl) ?_
 refine GoO.nil ?_
 refine GoK.code ?_
 refine GoC.seq ?_
 refine GoC.seq ?_
 refine GoC.region ?_
 refine GoO.pure (ps_move rfl rfl) ?_
 refine GoO.pure (ps_len rfl (by constructor) rfl) ?_
 refine GoO.lenLe (n := a.length) (x := .tmp 8) rfl (by constructor) sl_lenLe (fun ml1 => ?_)
 refine GoO.pure (ps_gtr rfl rfl rfl) ?_
 refine GoO.nil ?_
 refine GoK.code ?_
 refine GoC.condD rfl (fun h2 => ?_) (fun h2 => ?_)
 replace H := ite_t h2 H
 refine GoC.seq ?_
 refine GoC.region ?_
 refine GoO.pure (ps_assign rfl rfl) ?_
 refine GoO.nil ?_
 refine GoK.code ?_
 obtain rfl := Option.some.inj H
 exact GoC.retL (ds := [.v (.int .i64 2)]) Try.results50 (ResL.cons (ResD.tmp rfl) (ResL.nil)) (Take.nil _) ⟨rfl, rfl⟩
 replace H := ite_f h2 H
 refine GoC.skip ?_
 refine GoK.code ?_
 refine GoC.seq ?_
 refine GoC.seq ?_
 refine GoC.region ?_
 refine GoO.pure (ps_move rfl rfl) ?_
 refine GoO.pure (ps_len rfl (by constructor) rfl) ?_
 refine GoO.lenLe (n := b.length) (x := .tmp 11) rfl (by constructor) sl_lenLe (fun ml3 => ?_)
 refine GoO.pure (ps_move rfl rfl) ?_
 refine GoO.pure (ps_len rfl (by constructor) rfl) ?_
 refine GoO.pure (ps_neq rfl rfl rfl) ?_
 refine GoO.nil ?_
 refine GoK.code ?_
 refine GoC.condD rfl (fun h4 => ?_) (fun h4 => ?_)
 replace H := ite_t h4 H
 refine GoC.seq ?_
 refine GoC.region ?_
 refine GoO.pure (ps_assign rfl rfl) ?_
 refine GoO.nil ?_
 refine GoK.code ?_
 obtain rfl := Option.some.inj H
 exact GoC.retL (ds := [.v (.int .i64 3)]) Try.results50 (ResL.cons (ResD.tmp rfl) (ResL.nil)) (Take.nil _) ⟨rfl, rfl⟩
 replace H := ite_f h4 H
 refine GoC.skip ?_
 refine GoK.code ?_
 refine GoC.seq ?_
 refine GoC.seq ?_
 refine GoC.region ?_
 refine GoO.pure (ps_move rfl rfl) ?_
 refine GoO.pure (ps_move rfl rfl) ?_
 refine GoO.effB (ef_buildSlice (row ([a, b] : List (List (List Int)))) rfl (Parts.cons _ _ _ _ _ _ _ _ ⟨rfl, rfl⟩ (Part.one _ rfl rfl) rfl rfl (Parts.cons _ _ _ _ _ _ _ _ ⟨rfl, rfl⟩ (Part.one _ rfl rfl) rfl rfl (Parts.nil _))) rfl rfl rfl rfl) (fun β5 => ?_)
 have hb := bind_l H; clear H
 obtain ⟨r6, e8, H⟩ := hb
 refine GoO.callF rfl (Take.nil _) (Take.cons _ _ _ _ _ Rem.p0 (Take.nil _)) (slices_Concat_intL_spec ([a, b] : List (List (List Int))) e8) (LendL.cons (Lend.all' At.p0 (by first | rfl | omega | (simp only [subl_length, List.length_set, List.length_append, List.length_cons, List.length_nil, List.length_replicate, row_len] <;> first | rfl | omega)) rfl) (LendL.nil)) rfl no_fps (fun rr HH hp => ?_)
 obtain ⟨β7, rfl, rfl⟩ := hp
 refine GoO.pure (ps_len rfl (by constructor) rfl) ?_
 refine GoO.lenLe (n := r6.length) (x := .tmp 19) rfl (by constructor) own_lenLe (fun ml9 => ?_)
 refine GoO.pure (ps_move rfl rfl) ?_
 refine GoO.nil ?_
 refine GoK.code ?_
 have hb := bind_l H; clear H
 obtain ⟨q12, hl26, HK10⟩ := hb
 refine GoC.blockJ [] [.one β7 24 1 (row r6)] (fun v h => q12 = .go () ∧ v = [] ∧ h = []) ?_ ?_
 refine GoC.loopJ [(0, _), (19, _), (20, _)] [.one β7 24 1 (row r6)] (fun m v h => ∃ (k13 : Nat), (k13 + m = r6.length ∧ forC (stable_Check_B1 a r6) m k13 () = some q12) ∧ v = [(21, .v (.int .i64 ((k13 : Nat) : Int)))] ∧ h = []) r6.length ⟨_, ⟨by omega, hl26⟩, rfl, rfl⟩ (EnvD.eq rfl (EnvD.eq rfl (EnvD.eq rfl (EnvD.eq rfl (EnvD.nil))))) (TkD.cons _ _ _ _ _ Rem.p0 (HLe.refl _) (TkD.nil _)) ?_
 rintro m14 v h ⟨k13, ⟨hkk13, hF11⟩, rfl, rfl⟩
 refine GoC.seq ?_
 refine GoC.region ?_
 refine GoO.pure (ps_lss rfl rfl rfl) ?_
 refine GoO.nil ?_
 refine GoK.code ?_
 refine GoC.seq ?_
 refine GoC.condD rfl (fun (hk13 : (k13 : Int) < ((r6.length : Nat) : Int)) => ?_) (fun (hk13 : ¬ (k13 : Int) < ((r6.length : Nat) : Int)) => ?_)
 obtain ⟨m14', rfl⟩ : ∃ x, m14 = x + 1 := ⟨m14 - 1, by omega⟩
 have hb := bind_l hF11; clear hF11
 obtain ⟨qrm14, H, hF11⟩ := hb
 have hnk13 : k13 < r6.length := by omega
 have hIk13 : InI ((k13 : Int) + 1) := inI_len hk13 ml9
 refine GoC.skip ?_
 refine GoK.code ?_
 refine GoC.seq ?_
 refine GoC.block ?_
 refine GoC.seq ?_
 refine GoC.region ?_
 refine GoO.pure (ps_indexAddr0N rfl rfl hnk13 rfl) ?_
 refine GoO.pure (ps_load rfl At.p0 At.p0 hnk13 rfl rfl) ?_
 refine GoO.pure (ps_assign rfl rfl) ?_
 refine GoO.nil ?_
 refine GoK.code ?_
 refine GoC.seq ?_
 refine GoC.seq ?_
 refine GoC.region ?_
 refine GoO.pure (ps_move rfl rfl) ?_
 refine GoO.pure (ps_len rfl (by constructor) rfl) ?_
 refine GoO.lenLe (n := (r6.getD k13 []).length) (x := .tmp 25) rfl (by constructor) sl_lenLe (fun ml15 => ?_)
 refine GoO.pure (ps_move rfl rfl) ?_
 refine GoO.pure (ps_len rfl (by constructor) rfl) ?_
 refine GoO.pure (ps_neq rfl rfl rfl) ?_
 refine GoO.nil ?_
 refine GoK.code ?_
 refine GoC.condD rfl (fun h16 => ?_) (fun h16 => ?_)
 replace H := ite_t h16 H
 refine GoC.seq ?_
 refine GoC.region ?_
 refine GoO.pure (ps_assign rfl rfl) ?_
 refine GoO.nil ?_
 refine GoK.code ?_
 obtain rfl := Option.some.inj H
 obtain rfl := Option.some.inj hF11
 obtain rfl := Option.some.inj HK10
 exact GoC.retL (ds := [.v (.int .i64 3)]) Try.results50 (ResL.cons (ResD.tmp rfl) (ResL.nil)) (Take.nil _) ⟨rfl, rfl⟩
 replace H := ite_f h16 H
 refine GoC.skip ?_
 refine GoK.code ?_
 refine GoC.seq ?_
 refine GoC.region ?_
 refine GoO.pure (ps_move rfl rfl) ?_
 refine GoO.pure (ps_len rfl (by constructor) rfl) ?_
 refine GoO.pure (ps_move rfl rfl) ?_
 refine GoO.nil ?_
 refine GoK.code ?_
 have hb := bind_l H; clear H
 obtain ⟨q19, hl25, HK17⟩ := hb
 refine GoC.blockJ [(0, slD a), (19, .own β7 1 0 r6.length), (20, .v (.int .i64 ((r6.length : Nat) : Int))), (21, .v (.int .i64 ((k13 : Nat) : Int)))] [.one β7 24 1 (row r6)] (fun v h => q19 = .go () ∧ v = [] ∧ h = []) ?_ ?_
 refine GoC.loopJ [(0, _), (6, _), (19, _), (20, _), (21, _), (31, _)] [.one β7 24 1 (row r6)] (fun m v h => ∃ (k20 : Nat), (k20 + m = (r6.getD k13 []).length ∧ forC (stable_Check_B2 r6 k13) m k20 () = some q19) ∧ v = [(32, .v (.int .i64 ((k20 : Nat) : Int)))] ∧ h = []) ((r6.getD k13 []).length) ⟨_, ⟨by omega, hl25⟩, rfl, rfl⟩ (EnvD.eq rfl (EnvD.eq rfl (EnvD.eq rfl (EnvD.eq rfl (EnvD.eq rfl (EnvD.eq rfl (EnvD.eq rfl (EnvD.nil)))))))) (TkD.cons _ _ _ _ _ Rem.p0 (HLe.refl _) (TkD.nil _)) ?_
 rintro m21 v h ⟨k20, ⟨hkk20, hF18⟩, rfl, rfl⟩
 refine GoC.seq ?_
 refine GoC.region ?_
 refine GoO.pure (ps_lss rfl rfl rfl) ?_
 refine GoO.nil ?_
 refine GoK.code ?_
 refine GoC.seq ?_
 refine GoC.condD rfl (fun (hk20 : (k20 : Int) < (((r6.getD k13 []).length : Nat) : Int)) => ?_) (fun (hk20 : ¬ (k20 : Int) < (((r6.getD k13 []).length : Nat) : Int)) => ?_)
 obtain ⟨m21', rfl⟩ : ∃ x, m21 = x + 1 := ⟨m21 - 1, by omega⟩
 have hb := bind_l hF18; clear hF18
 obtain ⟨qrm21, H, hF18⟩ := hb
 have hnk20 : k20 < (r6.getD k13 []).length := by omega
 have hIk20 : InI ((k20 : Int) + 1) := inI_len hk20 ml15
 refine GoC.skip ?_
 refine GoK.code ?_
 refine GoC.seq ?_
 refine GoC.block ?_
 refine GoC.seq ?_
 refine GoC.region ?_
 refine GoO.pure (ps_move rfl rfl) ?_
 refine GoO.pure (ps_assign rfl rfl) ?_
 refine GoO.nil ?_
 refine GoK.code ?_
 refine GoC.seq ?_
 refine GoC.region ?_
 refine GoO.pure (ps_move rfl rfl) ?_
 refine GoO.pure (ps_move rfl rfl) ?_
 have hb := bind_l H; clear H
 obtain ⟨r22, e23, H⟩ := hb
 refine GoO.effC (ef_call rfl (Take.nil _) (Take.nil _) (slices_Contains_int_spec (r6.getD k13 []) ((k20 : Nat) : Int) e23) (LendL.cons (Lend.refl _ _) (LendL.cons (Lend.refl _ _) (LendL.nil))) rfl (slices_Contains_int_I (r22))) (fun rr HH hp => ?_)
 obtain ⟨rfl, rfl⟩ := hp
 refine GoO.pure (ps_not rfl rfl) ?_
 refine GoO.nil ?_
 refine GoK.code ?_
 refine GoC.cond rfl (fun h24 => ?_) (fun h24 => ?_)
 replace H := itb_t h24 H
 refine GoC.seq ?_
 refine GoC.region ?_
 refine GoO.pure (ps_assign rfl rfl) ?_
 refine GoO.nil ?_
 refine GoK.code ?_
 obtain rfl := Option.some.inj H
 obtain rfl := Option.some.inj hF18
 obtain rfl := Option.some.inj HK17
 obtain rfl := Option.some.inj hF11
 obtain rfl := Option.some.inj HK10
 exact GoC.retL (ds := [.v (.int .i64 3)]) Try.results50 (ResL.cons (ResD.tmp rfl) (ResL.nil)) (Take.nil _) ⟨rfl, rfl⟩
 replace H := itb_f h24 H
 refine GoC.skip ?_
 refine GoK.blk ?_
 refine GoK.code ?_
 refine GoC.region ?_
 refine GoO.pure (ps_add rfl rfl rfl hIk20) ?_
 refine GoO.pure (ps_move rfl rfl) ?_
 refine GoO.nil ?_
 obtain rfl := Option.some.inj H
 exact GoK.againJ m21' (by omega) ⟨_, ⟨by omega, hF18⟩, rfl, rfl⟩ (EnvD.eq rfl (EnvD.eq rfl (EnvD.eq rfl (EnvD.eq rfl (EnvD.eq rfl (EnvD.eq rfl (EnvD.eq rfl (EnvD.nil)))))))) (TkD.cons _ _ _ _ _ Rem.p0 (HLe.refl _) (TkD.nil _))
 obtain rfl : m21 = 0 := by omega
 refine GoC.exit rfl ?_
 cases hF18
 exact GoK.meet ⟨rfl, rfl, rfl⟩ (EnvD.eq rfl (EnvD.eq rfl (EnvD.eq rfl (EnvD.eq rfl (EnvD.nil))))) (TkD.cons _ _ _ _ _ Rem.p0 (HLe.refl _) (TkD.nil _))
 rintro v h ⟨rfl, rfl, rfl⟩
 have H := HK17; clear HK17
 refine GoK.blk ?_
 refine GoK.code ?_
 refine GoC.region ?_
 refine GoO.pure (ps_add rfl rfl rfl hIk13) ?_
 refine GoO.pure (ps_move rfl rfl) ?_
 refine GoO.nil ?_
 obtain rfl := Option.some.inj H
 exact GoK.againJ m14' (by omega) ⟨_, ⟨by omega, hF11⟩, rfl, rfl⟩ (EnvD.eq rfl (EnvD.eq rfl (EnvD.eq rfl (EnvD.eq rfl (EnvD.nil))))) (TkD.cons _ _ _ _ _ Rem.p0 (HLe.refl _) (TkD.nil _))
 obtain rfl : m14 = 0 := by omega
 refine GoC.exit rfl ?_
 cases hF11
 exact GoK.meet ⟨rfl, rfl, rfl⟩ (EnvD.nil) (TkD.cons _ _ _ _ _ Rem.p0 (HLe.refl _) (TkD.nil _))
 rintro v h ⟨rfl, rfl, rfl⟩
 have H := HK10; clear HK10
 refine GoK.code ?_
 refine GoC.seq ?_
 refine GoC.region ?_
 refine GoO.pure (ps_assign rfl rfl) ?_
 refine GoO.nil ?_
 refine GoK.code ?_
 obtain rfl := Option.some.inj H
 exact GoC.retL (ds := [.v (.int .i64 0)]) Try.results50 (ResL.cons (ResD.tmp rfl) (ResL.nil)) (Take.nil _) ⟨rfl, rfl⟩

def stable_checkPairs_B1 (p : (List Int)) : Nat → Unit → Option (Ct (Unit) (Int)) := fun k10 _ =>
 (slices_Contains_int_F p ((k10 : Nat) : Int)).bind fun r12 =>
 if (!r12) = true then
  some (.ret 3)
 else
  some (.go ())
def stable_checkPairs_F (a : (List (List Int))) (b : (List (List Int))) (p : (List Int)) : Option (Int) :=
 (stable_Check_F a b).bind fun r1 =>
 if r1 ≠ 0 then
  some r1
 else
  if ((p.length : Nat) : Int) ≠ ((a.length : Nat) : Int) then
   some 3
  else
   (forC (stable_checkPairs_B1 p) p.length 0 ()).bind fun q => match q with
   | .go _ =>
    some 0
   | .ret x => some x
def stable_checkPairs_P (out : Int) (d : D) (H : List HL) : Prop := d = .v (.int .i64 out) ∧ H = []
theorem stable_checkPairs_I (out : Int) : IndepP (stable_checkPairs_P out) := IndepP.of (by rintro _ _ ⟨rfl, rfl⟩; exact ⟨inferInstance, inferInstance⟩)
set_option maxRecDepth 100000 in
set_option maxHeartbeats 4000000 in
theorem stable_checkPairs_spec (a : (List (List Int))) (b : (List (List Int))) (p : (List Int)) {out : Int} (H : stable_checkPairs_F a b p = some out) : Does Try.prog 49 [slD a, slD b, slD p] [] (stable_checkPairs_P out) := by
 unfold stable_checkPairs_F at H
 refine Does.intro Try.func49 rfl Try.ntmps49 rfl fun w0 I0 => ?_
 refine GoC.seq ?_
 refine GoC.region ?_
 refine GoO.pure (ps_assign rfl rfl) ?_
 refine GoO.nil ?_
 refine GoK.code ?_
 refine GoC.seq ?_
 refine GoC.seq ?_
 refine GoC.region ?_
 refine GoO.pure (ps_move rfl rfl) ?_
 refine GoO.pure (ps_move rfl rfl) ?_
 have hb := bind_l H; clear H
 obtain ⟨r1, e2, H⟩ := hb
 refine GoO.effC (ef_call rfl (Take.nil _) (Take.nil _) (stable_Check_spec a b e2) (LendL.cons (Lend.refl _ _) (LendL.cons (Lend.refl _ _) (LendL.nil))) rfl (stable_Check_I (r1))) (fun rr HH hp => ?_)
 obtain ⟨rfl, rfl⟩ := hp
 refine GoO.pure (ps_assign rfl rfl) ?_
 refine GoO.nil ?_
 refine GoK.code ?_
 refine GoC.seq ?_
 refine GoC.region ?_
 refine GoO.pure (ps_move rfl rfl) ?_
 refine GoO.pure (ps_neq rfl rfl rfl) ?_
 refine GoO.nil ?_
 refine GoK.code ?_
 refine GoC.condD rfl (fun h3 => ?_) (fun h3 => ?_)
 replace H := ite_t h3 H
 refine GoC.seq ?_
 refine GoC.region ?_
 refine GoO.pure (ps_move rfl rfl) ?_
 refine GoO.pure (ps_assign rfl rfl) ?_
 refine GoO.nil ?_
 refine GoK.code ?_
 obtain rfl := Option.some.inj H
 exact GoC.retL (ds := [.v (.int .i64 r1)]) Try.results49 (ResL.cons (ResD.tmp rfl) (ResL.nil)) (Take.nil _) ⟨rfl, rfl⟩
 replace H := ite_f h3 H
 refine GoC.skip ?_
 refine GoK.code ?_
 refine GoC.seq ?_
 refine GoC.seq ?_
 refine GoC.region ?_
 refine GoO.pure (ps_move rfl rfl) ?_
 refine GoO.pure (ps_len rfl (by constructor) rfl) ?_
 refine GoO.lenLe (n := p.length) (x := .tmp 15) rfl (by constructor) sl_lenLe (fun ml4 => ?_)
 refine GoO.pure (ps_move rfl rfl) ?_
 refine GoO.pure (ps_len rfl (by constructor) rfl) ?_
 refine GoO.lenLe (n := a.length) (x := .tmp 17) rfl (by constructor) sl_lenLe (fun ml5 => ?_)
 refine GoO.pure (ps_neq rfl rfl rfl) ?_
 refine GoO.nil ?_
 refine GoK.code ?_
 refine GoC.condD rfl (fun h6 => ?_) (fun h6 => ?_)
 replace H := ite_t h6 H
 refine GoC.seq ?_
 refine GoC.region ?_
 refine GoO.pure (ps_assign rfl rfl) ?_
 refine GoO.nil ?_
 refine GoK.code ?_
 obtain rfl := Option.some.inj H
 exact GoC.retL (ds := [.v (.int .i64 3)]) Try.results49 (ResL.cons (ResD.tmp rfl) (ResL.nil)) (Take.nil _) ⟨rfl, rfl⟩
 replace H := ite_f h6 H
 refine GoC.skip ?_
 refine GoK.code ?_
 refine GoC.seq ?_
 refine GoC.seq ?_
 refine GoC.region ?_
 refine GoO.pure (ps_move rfl rfl) ?_
 refine GoO.pure (ps_len rfl (by constructor) rfl) ?_
 refine GoO.pure (ps_move rfl rfl) ?_
 refine GoO.nil ?_
 refine GoK.code ?_
 have hb := bind_l H; clear H
 obtain ⟨q9, hl15, HK7⟩ := hb
 refine GoC.blockJ [] [] (fun v h => q9 = .go () ∧ v = [] ∧ h = []) ?_ ?_
 refine GoC.loopJ [(2, _), (21, _)] [] (fun m v h => ∃ (k10 : Nat), (k10 + m = p.length ∧ forC (stable_checkPairs_B1 p) m k10 () = some q9) ∧ v = [(22, .v (.int .i64 ((k10 : Nat) : Int)))] ∧ h = []) p.length ⟨_, ⟨by omega, hl15⟩, rfl, rfl⟩ (EnvD.eq rfl (EnvD.eq rfl (EnvD.eq rfl (EnvD.nil)))) (TkD.nil _) ?_
 rintro m11 v h ⟨k10, ⟨hkk10, hF8⟩, rfl, rfl⟩
 refine GoC.seq ?_
 refine GoC.region ?_
 refine GoO.pure (ps_lss rfl rfl rfl) ?_
 refine GoO.nil ?_
 refine GoK.code ?_
 refine GoC.seq ?_
 refine GoC.condD rfl (fun (hk10 : (k10 : Int) < ((p.length : Nat) : Int)) => ?_) (fun (hk10 : ¬ (k10 : Int) < ((p.length : Nat) : Int)) => ?_)
 obtain ⟨m11', rfl⟩ : ∃ x, m11 = x + 1 := ⟨m11 - 1, by omega⟩
 have hb := bind_l hF8; clear hF8
 obtain ⟨qrm11, H, hF8⟩ := hb
 have hnk10 : k10 < p.length := by omega
 have hIk10 : InI ((k10 : Int) + 1) := inI_len hk10 ml4
 refine GoC.skip ?_
 refine GoK.code ?_
 refine GoC.seq ?_
 refine GoC.block ?_
 refine GoC.seq ?_
 refine GoC.region ?_
 refine GoO.pure (ps_move rfl rfl) ?_
 refine GoO.pure (ps_assign rfl rfl) ?_
 refine GoO.nil ?_
 refine GoK.code ?_
 refine GoC.seq ?_
 refine GoC.region ?_
 refine GoO.pure (ps_move rfl rfl) ?_
 refine GoO.pure (ps_move rfl rfl) ?_
 have hb := bind_l H; clear H
 obtain ⟨r12, e13, H⟩ := hb
 refine GoO.effC (ef_call rfl (Take.nil _) (Take.nil _) (slices_Contains_int_spec p ((k10 : Nat) : Int) e13) (LendL.cons (Lend.refl _ _) (LendL.cons (Lend.refl _ _) (LendL.nil))) rfl (slices_Contains_int_I (r12))) (fun rr HH hp => ?_)
 obtain ⟨rfl, rfl⟩ := hp
 refine GoO.pure (ps_not rfl rfl) ?_
 refine GoO.nil ?_
 refine GoK.code ?_
 refine GoC.cond rfl (fun h14 => ?_) (fun h14 => ?_)
 replace H := itb_t h14 H
 refine GoC.seq ?_
 refine GoC.region ?_
 refine GoO.pure (ps_assign rfl rfl) ?_
 refine GoO.nil ?_
 refine GoK.code ?_
 obtain rfl := Option.some.inj H
 obtain rfl := Option.some.inj hF8
 obtain rfl := Option.some.inj HK7
 exact GoC.retL (ds := [.v (.int .i64 3)]) Try.results49 (ResL.cons (ResD.tmp rfl) (ResL.nil)) (Take.nil _) ⟨rfl, rfl⟩
 replace H := itb_f h14 H
 refine GoC.skip ?_
 refine GoK.blk ?_
 refine GoK.code ?_
 refine GoC.region ?_
 refine GoO.pure (ps_add rfl rfl rfl hIk10) ?_
 refine GoO.pure (ps_move rfl rfl) ?_
 refine GoO.nil ?_
 obtain rfl := Option.some.inj H
 exact GoK.againJ m11' (by omega) ⟨_, ⟨by omega, hF8⟩, rfl, rfl⟩ (EnvD.eq rfl (EnvD.eq rfl (EnvD.eq rfl (EnvD.nil)))) (TkD.nil _)
 obtain rfl : m11 = 0 := by omega
 refine GoC.exit rfl ?_
 cases hF8
 exact GoK.meet ⟨rfl, rfl, rfl⟩ (EnvD.nil) (TkD.nil _)
 rintro v h ⟨rfl, rfl, rfl⟩
 have H := HK7; clear HK7
 refine GoK.code ?_
 refine GoC.seq ?_
 refine GoC.region ?_
 refine GoO.pure (ps_assign rfl rfl) ?_
 refine GoO.nil ?_
 refine GoK.code ?_
 obtain rfl := Option.some.inj H
 exact GoC.retL (ds := [.v (.int .i64 0)]) Try.results49 (ResL.cons (ResD.tmp rfl) (ResL.nil)) (Take.nil _) ⟨rfl, rfl⟩

def stable_Pair_B2 (a : (List (List Int))) (b : (List (List Int))) (p : (List Int)) (k8 : Nat) (r11 : Int) : Nat → Unit → Option (Ct (Unit) (Ct (Unit) (Int × Int × Int))) := fun k19 _ =>
 ck (0 ≤ ((subl (a.getD k8 []) 0 r11.toNat).getD k19 (0 : Int)) ∧ ((subl (a.getD k8 []) 0 r11.toNat).getD k19 (0 : Int)) < ((b.length : Nat) : Int)) <|
 (slices_Index_int_F (b.getD (((subl (a.getD k8 []) 0 r11.toNat).getD k19 (0 : Int)).toNat) []) ((k8 : Nat) : Int)).bind fun r22 =>
 (slices_Index_int_F p ((subl (a.getD k8 []) 0 r11.toNat).getD k19 (0 : Int))).bind fun r24 =>
 (slices_Index_int_F (b.getD (((subl (a.getD k8 []) 0 r11.toNat).getD k19 (0 : Int)).toNat) []) r24).bind fun r26 =>
 if r22 < r26 then
  some (.ret (.ret (((k8 : Nat) : Int), ((subl (a.getD k8 []) 0 r11.toNat).getD k19 (0 : Int)), 0)))
 else
  some (.go ())
def stable_Pair_B1 (a : (List (List Int))) (b : (List (List Int))) (p : (List Int)) : Nat → Unit → Option (Ct (Unit) (Int × Int × Int)) := fun k8 _ =>
 ck (k8 < p.length) <|
 (slices_Index_int_F (a.getD k8 []) (p.getD k8 (0 : Int))).bind fun r11 =>
 ck (0 ≤ r11) <|
 ck (r11.toNat ≤ (a.getD k8 []).length) <|
 (forC (stable_Pair_B2 a b p k8 r11) ((subl (a.getD k8 []) 0 r11.toNat).length) 0 ()).bind fun q => match q with
 | .go _ =>
  some (.go ())
 | .ret x => some x
def stable_Pair_F (a : (List (List Int))) (b : (List (List Int))) (p : (List Int)) : Option (Int × Int × Int) :=
 (stable_checkPairs_F a b p).bind fun r1 =>
 if r1 ≠ 0 then
  some (0, 0, r1)
 else
  (forC (stable_Pair_B1 a b p) a.length 0 ()).bind fun q => match q with
  | .go _ =>
   some (0, 0, 5)
  | .ret x => some x
def stable_Pair_P (out : Int × Int × Int) (d : D) (H : List HL) : Prop := d = .tp 3 (nth [.v (.int .i64 out.1), .v (.int .i64 out.2.1), .v (.int .i64 out.2.2)]) ∧ H = []
theorem stable_Pair_I (out : Int × Int × Int) : IndepP (stable_Pair_P out) := IndepP.of (by rintro _ _ ⟨rfl, rfl⟩; exact ⟨inferInstance, inferInstance⟩)
set_option maxRecDepth 100000 in
set_option maxHeartbeats 4000000 in
theorem stable_Pair_spec (a : (List (List Int))) (b : (List (List Int))) (p : (List Int)) {out : Int × Int × Int} (H : stable_Pair_F a b p = some out) : Does Try.prog 26 [slD a, slD b, slD p] [] (stable_Pair_P out) := by
 unfold stable_Pair_F at H
 refine Does.intro Try.func26 rfl Try.ntmps26 rfl fun w0 I0 => ?_
 refine GoC.seq ?_
 refine GoC.region ?_
 refine GoO.pure (ps_assign rfl rfl) ?_
 refine GoO.pure (ps_assign rfl rfl) ?_
 refine GoO.pure (ps_assign rfl rfl) ?_
 refine GoO.nil ?_
 refine GoK.code ?_
 refine GoC.seq ?_
 refine GoC.seq ?_
 refine GoC.region ?_
 refine GoO.pure (ps_move rfl rfl) ?_
 refine GoO.pure (ps_move rfl rfl) ?_
 refine GoO.pure (ps_move rfl rfl) ?_
 have hb := bind_l H; clear H
 obtain ⟨r1, e2, H⟩ := hb
 refine GoO.effC (ef_call rfl (Take.nil _) (Take.nil _) (stable_checkPairs_spec a b p e2) (LendL.cons (Lend.refl _ _) (LendL.cons (Lend.refl _ _) (LendL.cons (Lend.refl _ _) (LendL.nil)))) rfl (stable_checkPairs_I (r1))) (fun rr HH hp => ?_)
 obtain ⟨rfl, rfl⟩ := hp
 refine GoO.pure (ps_assign rfl rfl) ?_
 refine GoO.nil ?_
 refine GoK.code ?_
 refine GoC.seq ?_
 refine GoC.region ?_
 refine GoO.pure (ps_move rfl rfl) ?_
 refine GoO.pure (ps_neq rfl rfl rfl) ?_
 refine GoO.nil ?_
 refine GoK.code ?_
 refine GoC.condD rfl (fun h3 => ?_) (fun h3 => ?_)
 replace H := ite_t h3 H
 refine GoC.seq ?_
 refine GoC.region ?_
 refine GoO.pure (ps_move rfl rfl) ?_
 refine GoO.pure (ps_assign rfl rfl) ?_
 refine GoO.pure (ps_assign rfl rfl) ?_
 refine GoO.pure (ps_assign rfl rfl) ?_
 refine GoO.nil ?_
 refine GoK.code ?_
 obtain rfl := Option.some.inj H
 exact GoC.retL (ds := [.v (.int .i64 0), .v (.int .i64 0), .v (.int .i64 r1)]) Try.results26 (ResL.cons (ResD.tmp rfl) (ResL.cons (ResD.tmp rfl) (ResL.cons (ResD.tmp rfl) (ResL.nil)))) (Take.nil _) ⟨rfl, rfl⟩
 replace H := ite_f h3 H
 refine GoC.skip ?_
 refine GoK.code ?_
 refine GoC.seq ?_
 refine GoC.seq ?_
 refine GoC.region ?_
 refine GoO.pure (ps_move rfl rfl) ?_
 refine GoO.pure (ps_len rfl (by constructor) rfl) ?_
 refine GoO.lenLe (n := a.length) (x := .tmp 21) rfl (by constructor) sl_lenLe (fun ml4 => ?_)
 refine GoO.pure (ps_move rfl rfl) ?_
 refine GoO.nil ?_
 refine GoK.code ?_
 have hb := bind_l H; clear H
 obtain ⟨q7, hl30, HK5⟩ := hb
 refine GoC.blockJ [] [] (fun v h => q7 = .go () ∧ v = [] ∧ h = []) ?_ ?_
 refine GoC.loopJ [(1, _), (2, _), (21, _), (22, _)] [] (fun m v h => ∃ (k8 : Nat), (k8 + m = a.length ∧ forC (stable_Pair_B1 a b p) m k8 () = some q7) ∧ v = [(23, .v (.int .i64 ((k8 : Nat) : Int)))] ∧ h = []) a.length ⟨_, ⟨by omega, hl30⟩, rfl, rfl⟩ (EnvD.eq rfl (EnvD.eq rfl (EnvD.eq rfl (EnvD.eq rfl (EnvD.eq rfl (EnvD.nil)))))) (TkD.nil _) ?_
 rintro m9 v h ⟨k8, ⟨hkk8, hF6⟩, rfl, rfl⟩
 refine GoC.seq ?_
 refine GoC.region ?_
 refine GoO.pure (ps_lss rfl rfl rfl) ?_
 refine GoO.nil ?_
 refine GoK.code ?_
 refine GoC.seq ?_
 refine GoC.condD rfl (fun (hk8 : (k8 : Int) < ((a.length : Nat) : Int)) => ?_) (fun (hk8 : ¬ (k8 : Int) < ((a.length : Nat) : Int)) => ?_)
 obtain ⟨m9', rfl⟩ : ∃ x, m9 = x + 1 := ⟨m9 - 1, by omega⟩
 have hb := bind_l hF6; clear hF6
 obtain ⟨qrm9, H, hF6⟩ := hb
 have hnk8 : k8 < a.length := by omega
 have hIk8 : InI ((k8 : Int) + 1) := inI_len hk8 ml4
 refine GoC.skip ?_
 refine GoK.code ?_
 refine GoC.seq ?_
 refine GoC.block ?_
 refine GoC.seq ?_
 refine GoC.region ?_
 refine GoO.pure (ps_move rfl rfl) ?_
 refine GoO.pure (ps_indexAddrRN rfl rfl hnk8 rfl) ?_
 refine GoO.pure (ps_loadR rfl hnk8 rfl rfl) ?_
 refine GoO.pure (ps_assign rfl rfl) ?_
 refine GoO.pure (ps_assign rfl rfl) ?_
 refine GoO.nil ?_
 refine GoK.code ?_
 refine GoC.seq ?_
 refine GoC.region ?_
 refine GoO.pure (ps_move rfl rfl) ?_
 refine GoO.pure (ps_move rfl rfl) ?_
 refine GoO.pure (ps_move rfl rfl) ?_
 refine GoO.pure (ps_move rfl rfl) ?_
 have c10 := ck_l H; replace H := ck_r H
 refine GoO.pure (ps_indexAddrRN rfl rfl c10 rfl) ?_
 refine GoO.pure (ps_loadR rfl c10 rfl rfl) ?_
 have hb := bind_l H; clear H
 obtain ⟨r11, e12, H⟩ := hb
 refine GoO.effC (ef_call rfl (Take.nil _) (Take.nil _) (slices_Index_int_spec (a.getD k8 []) (p.getD k8 (0 : Int)) e12) (LendL.cons (Lend.refl _ _) (LendL.cons (Lend.refl _ _) (LendL.nil))) rfl (slices_Index_int_I (r11))) (fun rr HH hp => ?_)
 obtain ⟨rfl, rfl⟩ := hp
 have c13 := ck_l H; replace H := ck_r H
 have c14 := ck_l H; replace H := ck_r H
 refine GoO.pure (ps_sliceR rfl (Bd.no _) (Bd.int _ _ _ _ rfl c13) (Nat.zero_le _) c14 rfl) ?_
 refine GoO.le (Le.re 35 rfl (DLe.part (xs := (a.getD k8 [])) (r := 0) (len := r11.toNat) (by have := c14; first | omega | (simp only [subl_length, List.length_set, List.length_append, List.length_cons, List.length_nil, List.length_replicate, row_len]; omega)))) ?_
 refine GoO.pure (ps_len rfl (by constructor) rfl) ?_
 refine GoO.lenLe (n := (subl (a.getD k8 []) 0 r11.toNat).length) (x := .tmp 35) rfl (by constructor) sl_lenLe (fun ml15 => ?_)
 refine GoO.pure (ps_move rfl rfl) ?_
 refine GoO.nil ?_
 refine GoK.code ?_
 have hb := bind_l H; clear H
 obtain ⟨q18, hl29, HK16⟩ := hb
 refine GoC.blockJ [(1, slD b), (2, slD p), (21, slD a), (22, .v (.int .i64 ((a.length : Nat) : Int))), (23, .v (.int .i64 ((k8 : Nat) : Int)))] [] (fun v h => q18 = .go () ∧ v = [] ∧ h = []) ?_ ?_
 refine GoC.loopJ [(1, _), (2, _), (10, _), (21, _), (22, _), (23, _), (35, _), (36, _)] [] (fun m v h => ∃ (k19 : Nat), (k19 + m = (subl (a.getD k8 []) 0 r11.toNat).length ∧ forC (stable_Pair_B2 a b p k8 r11) m k19 () = some q18) ∧ v = [(37, .v (.int .i64 ((k19 : Nat) : Int)))] ∧ h = []) ((subl (a.getD k8 []) 0 r11.toNat).length) ⟨_, ⟨by omega, hl29⟩, rfl, rfl⟩ (EnvD.eq rfl (EnvD.eq rfl (EnvD.eq rfl (EnvD.eq rfl (EnvD.eq rfl (EnvD.eq rfl (EnvD.eq rfl (EnvD.eq rfl (EnvD.eq rfl (EnvD.nil)))))))))) (TkD.nil _) ?_
 rintro m20 v h ⟨k19, ⟨hkk19, hF17⟩, rfl, rfl⟩
 refine GoC.seq ?_
 refine GoC.region ?_
 refine GoO.pure (ps_lss rfl rfl rfl) ?_
 refine GoO.nil ?_
 refine GoK.code ?_
 refine GoC.seq ?_
 refine GoC.condD rfl (fun (hk19 : (k19 : Int) < (((subl (a.getD k8 []) 0 r11.toNat).length : Nat) : Int)) => ?_) (fun (hk19 : ¬ (k19 : Int) < (((subl (a.getD k8 []) 0 r11.toNat).length : Nat) : Int)) => ?_)
 obtain ⟨m20', rfl⟩ : ∃ x, m20 = x + 1 := ⟨m20 - 1, by omega⟩
 have hb := bind_l hF17; clear hF17
 obtain ⟨qrm20, H, hF17⟩ := hb
 have hnk19 : k19 < (subl (a.getD k8 []) 0 r11.toNat).length := by omega
 have hIk19 : InI ((k19 : Int) + 1) := inI_len hk19 ml15
 refine GoC.skip ?_
 refine GoK.code ?_
 refine GoC.seq ?_
 refine GoC.block ?_
 refine GoC.seq ?_
 refine GoC.region ?_
 refine GoO.pure (ps_indexAddrRN rfl rfl hnk19 rfl) ?_
 refine GoO.pure (ps_loadR rfl hnk19 rfl rfl) ?_
 refine GoO.pure (ps_assign rfl rfl) ?_
 refine GoO.nil ?_
 refine GoK.code ?_
 refine GoC.seq ?_
 refine GoC.drawA (.q 0 (.q 1 (.q 2 (.q 3 (.q 4 (.q 6 (.q 7 (.q 8 (.q 9 (.q 10 (.q 11 (.one 5 (.one 12 (.one 13 (.q 14 (.done)))))))))))))))) follows (by kernel_rfl) ?_
 refine GoP.qN rfl (ps_move rfl rfl) ?_
 refine GoP.qN rfl (ps_move rfl rfl) ?_
 have c21 := ck_l H; replace H := ck_r H
 refine GoP.qN rfl (ps_indexAddrR rfl rfl c21 rfl) ?_
 refine GoP.qN rfl (ps_loadR rfl (idx_lt c21) rfl rfl) ?_
 refine GoP.qN rfl (ps_move rfl rfl) ?_
 refine GoP.qN rfl (ps_move rfl rfl) ?_
 refine GoP.qN rfl (ps_move rfl rfl) ?_
 refine GoP.qN rfl (ps_indexAddrR rfl rfl c21 rfl) ?_
 refine GoP.qN rfl (ps_loadR rfl (idx_lt c21) rfl rfl) ?_
 refine GoP.qN rfl (ps_move rfl rfl) ?_
 refine GoP.qN rfl (ps_move rfl rfl) ?_
 have hb := bind_l H; clear H
 obtain ⟨r22, e23, H⟩ := hb
 refine GoP.oneC rfl trivial (ef_call rfl (Take.nil _) (Take.nil _) (slices_Index_int_spec (b.getD (((subl (a.getD k8 []) 0 r11.toNat).getD k19 (0 : Int)).toNat) []) ((k8 : Nat) : Int) e23) (LendL.cons (Lend.refl _ _) (LendL.cons (Lend.refl _ _) (LendL.nil))) rfl (slices_Index_int_I (r22))) (Take.nil _) (fun rr HH hp => ?_)
 obtain ⟨rfl, rfl⟩ := hp
 have hb := bind_l H; clear H
 obtain ⟨r24, e25, H⟩ := hb
 refine GoP.oneC rfl trivial (ef_call rfl (Take.nil _) (Take.nil _) (slices_Index_int_spec p ((subl (a.getD k8 []) 0 r11.toNat).getD k19 (0 : Int)) e25) (LendL.cons (Lend.refl _ _) (LendL.cons (Lend.refl _ _) (LendL.nil))) rfl (slices_Index_int_I (r24))) (Take.nil _) (fun rr HH hp => ?_)
 obtain ⟨rfl, rfl⟩ := hp
 have hb := bind_l H; clear H
 obtain ⟨r26, e27, H⟩ := hb
 refine GoP.oneC rfl trivial (ef_call rfl (Take.nil _) (Take.nil _) (slices_Index_int_spec (b.getD (((subl (a.getD k8 []) 0 r11.toNat).getD k19 (0 : Int)).toNat) []) r24 e27) (LendL.cons (Lend.refl _ _) (LendL.cons (Lend.refl _ _) (LendL.nil))) rfl (slices_Index_int_I (r26))) (Take.nil _) (fun rr HH hp => ?_)
 obtain ⟨rfl, rfl⟩ := hp
 refine GoP.qN rfl (ps_lss rfl rfl rfl) ?_
 refine GoP.done ?_
 refine GoK.code ?_
 refine GoC.condD rfl (fun h28 => ?_) (fun h28 => ?_)
 replace H := ite_t h28 H
 refine GoC.seq ?_
 refine GoC.region ?_
 refine GoO.pure (ps_move rfl rfl) ?_
 refine GoO.pure (ps_move rfl rfl) ?_
 refine GoO.pure (ps_assign rfl rfl) ?_
 refine GoO.pure (ps_assign rfl rfl) ?_
 refine GoO.pure (ps_assign rfl rfl) ?_
 refine GoO.nil ?_
 refine GoK.code ?_
 obtain rfl := Option.some.inj H
 obtain rfl := Option.some.inj hF17
 obtain rfl := Option.some.inj HK16
 obtain rfl := Option.some.inj hF6
 obtain rfl := Option.some.inj HK5
 exact GoC.retL (ds := [.v (.int .i64 ((k8 : Nat) : Int)), .v (.int .i64 ((subl (a.getD k8 []) 0 r11.toNat).getD k19 (0 : Int))), .v (.int .i64 0)]) Try.results26 (ResL.cons (ResD.tmp rfl) (ResL.cons (ResD.tmp rfl) (ResL.cons (ResD.tmp rfl) (ResL.nil)))) (Take.nil _) ⟨rfl, rfl⟩
 replace H := ite_f h28 H
 refine GoC.skip ?_
 refine GoK.blk ?_
 refine GoK.code ?_
 refine GoC.region ?_
 refine GoO.pure (ps_add rfl rfl rfl hIk19) ?_
 refine GoO.pure (ps_move rfl rfl) ?_
 refine GoO.nil ?_
 obtain rfl := Option.some.inj H
 exact GoK.againJ m20' (by omega) ⟨_, ⟨by omega, hF17⟩, rfl, rfl⟩ (EnvD.eq rfl (EnvD.eq rfl (EnvD.eq rfl (EnvD.eq rfl (EnvD.eq rfl (EnvD.eq rfl (EnvD.eq rfl (EnvD.eq rfl (EnvD.eq rfl (EnvD.nil)))))))))) (TkD.nil _)
 obtain rfl : m20 = 0 := by omega
 refine GoC.exit rfl ?_
 cases hF17
 exact GoK.meet ⟨rfl, rfl, rfl⟩ (EnvD.eq rfl (EnvD.eq rfl (EnvD.eq rfl (EnvD.eq rfl (EnvD.eq rfl (EnvD.nil)))))) (TkD.nil _)
 rintro v h ⟨rfl, rfl, rfl⟩
 have H := HK16; clear HK16
 refine GoK.blk ?_
 refine GoK.code ?_
 refine GoC.region ?_
 refine GoO.pure (ps_add rfl rfl rfl hIk8) ?_
 refine GoO.pure (ps_move rfl rfl) ?_
 refine GoO.nil ?_
 obtain rfl := Option.some.inj H
 exact GoK.againJ m9' (by omega) ⟨_, ⟨by omega, hF6⟩, rfl, rfl⟩ (EnvD.eq rfl (EnvD.eq rfl (EnvD.eq rfl (EnvD.eq rfl (EnvD.eq rfl (EnvD.nil)))))) (TkD.nil _)
 obtain rfl : m9 = 0 := by omega
 refine GoC.exit rfl ?_
 cases hF6
 exact GoK.meet ⟨rfl, rfl, rfl⟩ (EnvD.nil) (TkD.nil _)
 rintro v h ⟨rfl, rfl, rfl⟩
 have H := HK5; clear HK5
 refine GoK.code ?_
 refine GoC.seq ?_
 refine GoC.region ?_
 refine GoO.pure (ps_assign rfl rfl) ?_
 refine GoO.pure (ps_assign rfl rfl) ?_
 refine GoO.pure (ps_assign rfl rfl) ?_
 refine GoO.nil ?_
 refine GoK.code ?_
 obtain rfl := Option.some.inj H
 exact GoC.retL (ds := [.v (.int .i64 0), .v (.int .i64 0), .v (.int .i64 5)]) Try.results26 (ResL.cons (ResD.tmp rfl) (ResL.cons (ResD.tmp rfl) (ResL.cons (ResD.tmp rfl) (ResL.nil)))) (Take.nil _) ⟨rfl, rfl⟩

def stable_refused_F (e_ : Int) : Option (Int) :=
 if e_ = 0 then
  some 9
 else
  some e_
def stable_refused_P (out : Int) (d : D) (H : List HL) : Prop := d = .v (.int .i64 out) ∧ H = []
theorem stable_refused_I (out : Int) : IndepP (stable_refused_P out) := IndepP.of (by rintro _ _ ⟨rfl, rfl⟩; exact ⟨inferInstance, inferInstance⟩)
set_option maxRecDepth 100000 in
set_option maxHeartbeats 4000000 in
theorem stable_refused_spec (e_ : Int) {out : Int} (H : stable_refused_F e_ = some out) : Does Try.prog 47 [.v (.int .i64 e_)] [] (stable_refused_P out) := by
 unfold stable_refused_F at H
 refine Does.intro Try.func47 rfl Try.ntmps47 rfl fun w0 I0 => ?_
 refine GoC.seq ?_
 refine GoC.region ?_
 refine GoO.pure (ps_assign rfl rfl) ?_
 refine GoO.nil ?_
 refine GoK.code ?_
 refine GoC.seq ?_
 refine GoC.seq ?_
 refine GoC.region ?_
 refine GoO.pure (ps_move rfl rfl) ?_
 refine GoO.pure (ps_eql rfl rfl rfl) ?_
 refine GoO.nil ?_
 refine GoK.code ?_
 refine GoC.condD rfl (fun h1 => ?_) (fun h1 => ?_)
 replace H := ite_t h1 H
 refine GoC.seq ?_
 refine GoC.region ?_
 refine GoO.pure (ps_assign rfl rfl) ?_
 refine GoO.nil ?_
 refine GoK.code ?_
 obtain rfl := Option.some.inj H
 exact GoC.retL (ds := [.v (.int .i64 9)]) Try.results47 (ResL.cons (ResD.tmp rfl) (ResL.nil)) (Take.nil _) ⟨rfl, rfl⟩
 replace H := ite_f h1 H
 refine GoC.skip ?_
 refine GoK.code ?_
 refine GoC.seq ?_
 refine GoC.region ?_
 refine GoO.pure (ps_move rfl rfl) ?_
 refine GoO.pure (ps_assign rfl rfl) ?_
 refine GoO.nil ?_
 refine GoK.code ?_
 obtain rfl := Option.some.inj H
 exact GoC.retL (ds := [.v (.int .i64 e_)]) Try.results47 (ResL.cons (ResD.tmp rfl) (ResL.nil)) (Take.nil _) ⟨rfl, rfl⟩

def stable_Both_B1 (a : (List (List Int))) (p : (List Int)) (q : (List Int)) : Nat → ((List Int) × (List Int)) → Option ((List Int) × (List Int)) := fun k30 (l23, l24) =>
 ck (k30 < p.length) <|
 ck (k30 < q.length) <|
 (slices_Index_int_F (a.getD k30 []) (p.getD k30 (0 : Int))).bind fun r34 =>
 (slices_Index_int_F (a.getD k30 []) (q.getD k30 (0 : Int))).bind fun r36 =>
 ck (0 ≤ (min r34 r36) ∧ (min r34 r36) < (((a.getD k30 []).length : Nat) : Int)) <|
 ck (0 ≤ (max r34 r36) ∧ (max r34 r36) < (((a.getD k30 []).length : Nat) : Int)) <|
 ck (k30 < l23.length) <|
 ck (k30 < l24.length) <|
 some ((l23.set k30 ((a.getD k30 []).getD ((min r34 r36).toNat) (0 : Int))), (l24.set k30 ((a.getD k30 []).getD ((max r34 r36).toNat) (0 : Int))))
def stable_Both_F (a : (List (List Int))) (b : (List (List Int))) (p : (List Int)) (q : (List Int)) : Option ((List Int) × (List Int) × Int) :=
 (stable_Pair_F a b p).bind fun (r1, r2, r3) =>
 if r3 ≠ 5 then
  (stable_refused_F r3).bind fun r6 =>
  some ([], [], r6)
 else
  (stable_Pair_F a b q).bind fun (r8, r9, r10) =>
  if r10 ≠ 5 then
   (stable_refused_F r10).bind fun r13 =>
   some ([], [], r13)
  else
   ck (0 ≤ ((a.length : Nat) : Int) ∧ ((a.length : Nat) : Int) ≤ 10000000000) <|
   (forN (stable_Both_B1 a p q) a.length 0 ((List.replicate (((a.length : Nat) : Int).toNat) (0 : Int)), (List.replicate (((a.length : Nat) : Int).toNat) (0 : Int)))).bind fun (l28, l29) =>
   some (l28, l29, 0)
def stable_Both_P (out : (List Int) × (List Int) × Int) (d : D) (H : List HL) : Prop := ∃ β1 β2 : BK, d = .tp 3 (nth [.own β1 1 0 out.1.length, .own β2 1 0 out.2.1.length, .v (.int .i64 out.2.2)]) ∧ H = [.one β1 3 1 (row out.1), .one β2 3 1 (row out.2.1)]
theorem stable_Both_I (out : (List Int) × (List Int) × Int) : IndepP (stable_Both_P out) := IndepP.of (by rintro _ _ ⟨β1, β2, rfl, rfl⟩; exact ⟨inferInstance, inferInstance⟩)
set_option maxRecDepth 100000 in
set_option maxHeartbeats 4000000 in
theorem stable_Both_spec (a : (List (List Int))) (b : (List (List Int))) (p : (List Int)) (q : (List Int)) {out : (List Int) × (List Int) × Int} (H : stable_Both_F a b p q = some out) : Does Try.prog 25 [slD a, slD b, slD p, slD q] [] (stable_Both_P out) := by
 unfold stable_Both_F at H
 refine Does.intro Try.func25 rfl Try.ntmps25 rfl fun w0 I0 => ?_
 refine GoC.seq ?_
 refine GoC.region ?_
 refine GoO.pure (ps_assign rfl rfl) ?_
 refine GoO.pure (ps_assign rfl rfl) ?_
 refine GoO.pure (ps_assign rfl rfl) ?_
 refine GoO.nil ?_
 refine GoK.code ?_
 refine GoC.seq ?_
 refine GoC.seq ?_
 refine GoC.region ?_
 refine GoO.pure (ps_move rfl rfl) ?_
 refine GoO.pure (ps_move rfl rfl) ?_
 refine GoO.pure (ps_move rfl rfl) ?_
 have hb := bind_l H; clear H
 obtain ⟨⟨r1, r2, r3⟩, e4, H⟩ := hb
 refine GoO.effC (ef_call rfl (Take.nil _) (Take.nil _) (stable_Pair_spec a b p e4) (LendL.cons (Lend.refl _ _) (LendL.cons (Lend.refl _ _) (LendL.cons (Lend.refl _ _) (LendL.nil)))) rfl (stable_Pair_I (r1, r2, r3))) (fun rr HH hp => ?_)
 obtain ⟨rfl, rfl⟩ := hp
 refine GoO.pure (ps_move rfl rfl) ?_
 refine GoO.pure (ps_extract rfl rfl rfl) ?_
 refine GoO.pure (ps_extract rfl rfl rfl) ?_
 refine GoO.pure (ps_extract rfl rfl rfl) ?_
 refine GoO.pure (ps_assign rfl rfl) ?_
 refine GoO.pure (ps_assign rfl rfl) ?_
 refine GoO.pure (ps_assign rfl rfl) ?_
 refine GoO.nil ?_
 refine GoK.code ?_
 refine GoC.seq ?_
 refine GoC.region ?_
 refine GoO.pure (ps_move rfl rfl) ?_
 refine GoO.pure (ps_neq rfl rfl rfl) ?_
 refine GoO.nil ?_
 refine GoK.code ?_
 refine GoC.condD rfl (fun h5 => ?_) (fun h5 => ?_)
 replace H := ite_t h5 H
 refine GoC.seq ?_
 refine GoC.region ?_
 refine GoO.pure (ps_move rfl rfl) ?_
 have hb := bind_l H; clear H
 obtain ⟨r6, e7, H⟩ := hb
 refine GoO.effC (ef_call rfl (Take.nil _) (Take.nil _) (stable_refused_spec r3 e7) (LendL.cons (Lend.refl _ _) (LendL.nil)) rfl (stable_refused_I (r6))) (fun rr HH hp => ?_)
 obtain ⟨rfl, rfl⟩ := hp
 refine GoO.pure (ps_assign rfl rfl) ?_
 refine GoO.pure (ps_assign rfl rfl) ?_
 refine GoO.pure (ps_assign rfl rfl) ?_
 refine GoO.nil ?_
 refine GoK.code ?_
 obtain rfl := Option.some.inj H
 refine GoC.le (le_row0 3 1 (row ([] : List Int)) rfl) ?_
 refine GoC.le (le_row0 3 1 (row ([] : List Int)) rfl) ?_
 exact GoC.retL (ds := [.own ⟨0, 0, 0⟩ 1 0 0, .own ⟨0, 0, 0⟩ 1 0 0, .v (.int .i64 r6)]) Try.results25 (ResL.cons (ResD.le (ResD.tmp rfl) (by exact DLe.nilOwn)) (ResL.cons (ResD.le (ResD.tmp rfl) (by exact DLe.nilOwn)) (ResL.cons (ResD.tmp rfl) (ResL.nil)))) (Take.cons _ _ _ _ _ Rem.p1 (Take.cons _ _ _ _ _ Rem.p0 (Take.nil _))) ⟨⟨0, 0, 0⟩, ⟨0, 0, 0⟩, rfl, rfl⟩
 replace H := ite_f h5 H
 refine GoC.skip ?_
 refine GoK.code ?_
 refine GoC.seq ?_
 refine GoC.seq ?_
 refine GoC.region ?_
 refine GoO.pure (ps_move rfl rfl) ?_
 refine GoO.pure (ps_move rfl rfl) ?_
 refine GoO.pure (ps_move rfl rfl) ?_
 have hb := bind_l H; clear H
 obtain ⟨⟨r8, r9, r10⟩, e11, H⟩ := hb
 refine GoO.effC (ef_call rfl (Take.nil _) (Take.nil _) (stable_Pair_spec a b q e11) (LendL.cons (Lend.refl _ _) (LendL.cons (Lend.refl _ _) (LendL.cons (Lend.refl _ _) (LendL.nil)))) rfl (stable_Pair_I (r8, r9, r10))) (fun rr HH hp => ?_)
 obtain ⟨rfl, rfl⟩ := hp
 refine GoO.pure (ps_move rfl rfl) ?_
 refine GoO.pure (ps_extract rfl rfl rfl) ?_
 refine GoO.pure (ps_extract rfl rfl rfl) ?_
 refine GoO.pure (ps_extract rfl rfl rfl) ?_
 refine GoO.pure (ps_assign rfl rfl) ?_
 refine GoO.pure (ps_assign rfl rfl) ?_
 refine GoO.pure (ps_assign rfl rfl) ?_
 refine GoO.nil ?_
 refine GoK.code ?_
 refine GoC.seq ?_
 refine GoC.region ?_
 refine GoO.pure (ps_move rfl rfl) ?_
 refine GoO.pure (ps_neq rfl rfl rfl) ?_
 refine GoO.nil ?_
 refine GoK.code ?_
 refine GoC.condD rfl (fun h12 => ?_) (fun h12 => ?_)
 replace H := ite_t h12 H
 refine GoC.seq ?_
 refine GoC.region ?_
 refine GoO.pure (ps_move rfl rfl) ?_
 have hb := bind_l H; clear H
 obtain ⟨r13, e14, H⟩ := hb
 refine GoO.effC (ef_call rfl (Take.nil _) (Take.nil _) (stable_refused_spec r10 e14) (LendL.cons (Lend.refl _ _) (LendL.nil)) rfl (stable_refused_I (r13))) (fun rr HH hp => ?_)
 obtain ⟨rfl, rfl⟩ := hp
 refine GoO.pure (ps_assign rfl rfl) ?_
 refine GoO.pure (ps_assign rfl rfl) ?_
 refine GoO.pure (ps_assign rfl rfl) ?_
 refine GoO.nil ?_
 refine GoK.code ?_
 obtain rfl := Option.some.inj H
 refine GoC.le (le_row0 3 1 (row ([] : List Int)) rfl) ?_
 refine GoC.le (le_row0 3 1 (row ([] : List Int)) rfl) ?_
 exact GoC.retL (ds := [.own ⟨0, 0, 0⟩ 1 0 0, .own ⟨0, 0, 0⟩ 1 0 0, .v (.int .i64 r13)]) Try.results25 (ResL.cons (ResD.le (ResD.tmp rfl) (by exact DLe.nilOwn)) (ResL.cons (ResD.le (ResD.tmp rfl) (by exact DLe.nilOwn)) (ResL.cons (ResD.tmp rfl) (ResL.nil)))) (Take.cons _ _ _ _ _ Rem.p1 (Take.cons _ _ _ _ _ Rem.p0 (Take.nil _))) ⟨⟨0, 0, 0⟩, ⟨0, 0, 0⟩, rfl, rfl⟩
 replace H := ite_f h12 H
 refine GoC.skip ?_
 refine GoK.code ?_
 refine GoC.seq ?_
 refine GoC.drawA (.q 0 (.q 1 (.q 3 (.q 4 (.two 2 5 (.q 6 (.one 5 (.q 7 (.done)))) (.one 2 (.q 6 (.q 7 (.done))))))))) follows (by kernel_rfl) ?_
 refine GoP.qN rfl (ps_move rfl rfl) ?_
 refine GoP.qN rfl (ps_len rfl (by constructor) rfl) ?_
 refine GoP.qN rfl (ps_move rfl rfl) ?_
 refine GoP.qN rfl (ps_len rfl (by constructor) rfl) ?_
 have c16 := ck_l H; replace H := ck_r H
 apply GoP.fork2
 exact rfl
 exact rfl
 exact trivial
 exact trivial
 exact ef_makeZ rfl rfl c16 rfl rfl rfl
 exact ef_makeZ rfl rfl c16 rfl rfl rfl
 exact (Take.nil _)
 exact (Take.nil _)
 intro hQ
 rintro _ ⟨β18, rfl⟩
 refine GoP.leD (Le.reH At.p0 (HLe.zeros (α := Int) ⟨trivial, DLe.refl _⟩)) ?_
 refine GoP.qN rfl (ps_assign rfl rfl) ?_
 refine GoP.oneB rfl trivial (ef_makeZ rfl rfl c16 rfl rfl rfl) (Take.nil _) (fun β20 => ?_)
 refine GoP.leD (Le.reH At.p0 (HLe.zeros (α := Int) ⟨trivial, DLe.refl _⟩)) ?_
 refine GoP.qN rfl (ps_assign rfl rfl) ?_
 exact GoP.done (hQ β18 β20)
 intro hQ
 rintro _ ⟨β19, rfl⟩
 refine GoP.leD (Le.reH At.p0 (HLe.zeros (α := Int) ⟨trivial, DLe.refl _⟩)) ?_
 refine GoP.oneB rfl trivial (ef_makeZ rfl rfl c16 rfl rfl rfl) (Take.nil _) (fun β21 => ?_)
 refine GoP.leD (Le.reH At.p0 (HLe.zeros (α := Int) ⟨trivial, DLe.refl _⟩)) ?_
 refine GoP.qN rfl (ps_assign rfl rfl) ?_
 refine GoP.qN rfl (ps_assign rfl rfl) ?_
 refine GoP.done (GoK.le ?_ (hQ β21 β19))
 refine Le.ofDW ?_ (TkD.cons _ _ _ _ _ Rem.p1 (HLe.refl _) (TkD.cons _ _ _ _ _ Rem.p0 (HLe.refl _) (TkD.nil _)))
 repeat (first | exact EnvLeW.nil | refine EnvLeW.cons rfl ?_ | refine EnvLeW.skip rfl ?_)
 intro β18 β20
 refine GoK.code ?_
 refine GoC.seq ?_
 refine GoC.seq ?_
 refine GoC.region ?_
 refine GoO.pure (ps_move rfl rfl) ?_
 refine GoO.pure (ps_len rfl (by constructor) rfl) ?_
 refine GoO.lenLe (n := a.length) (x := .tmp 53) rfl (by constructor) sl_lenLe (fun ml22 => ?_)
 refine GoO.pure (ps_move rfl rfl) ?_
 refine GoO.nil ?_
 refine GoK.code ?_
 have hb := bind_l H; clear H
 obtain ⟨⟨l28, l29⟩, hl42, HK25⟩ := hb
 refine GoC.blockJ [] [] (fun v h => v = [(17, .own β18 1 0 l28.length), (18, .own β20 1 0 l29.length)] ∧ h = [.one β18 3 1 (row l28), .one β20 3 1 (row l29)]) ?_ ?_
 refine GoC.loopJ [(2, _), (3, _), (53, _), (54, _)] [] (fun m v h => ∃ (k30 : Nat) (l23 : (List Int)) (l24 : (List Int)), (k30 + m = a.length ∧ forN (stable_Both_B1 a p q) m k30 (l23, l24) = some (l28, l29)) ∧ v = [(55, .v (.int .i64 ((k30 : Nat) : Int))), (17, .own β18 1 0 l23.length), (18, .own β20 1 0 l24.length)] ∧ h = [.one β18 3 1 (row l23), .one β20 3 1 (row l24)]) a.length ⟨_, _, _, ⟨by omega, hl42⟩, rfl, rfl⟩ (EnvD.eq rfl (EnvD.cons rfl (DLe.len (by first | rfl | omega | (simp only [row_len, List.length_replicate] <;> first | rfl | omega))) (EnvD.cons rfl (DLe.len (by first | rfl | omega | (simp only [row_len, List.length_replicate] <;> first | rfl | omega))) (EnvD.eq rfl (EnvD.eq rfl (EnvD.eq rfl (EnvD.eq rfl (EnvD.nil)))))))) (TkD.cons _ _ _ _ _ Rem.p1 (HLe.refl _) (TkD.cons _ _ _ _ _ Rem.p0 (HLe.refl _) (TkD.nil _))) ?_
 rintro m31 v h ⟨k30, l23, l24, ⟨hkk30, hF26⟩, rfl, rfl⟩
 refine GoC.seq ?_
 refine GoC.region ?_
 refine GoO.pure (ps_lss rfl rfl rfl) ?_
 refine GoO.nil ?_
 refine GoK.code ?_
 refine GoC.seq ?_
 refine GoC.condD rfl (fun (hk30 : (k30 : Int) < ((a.length : Nat) : Int)) => ?_) (fun (hk30 : ¬ (k30 : Int) < ((a.length : Nat) : Int)) => ?_)
 obtain ⟨m31', rfl⟩ : ∃ x, m31 = x + 1 := ⟨m31 - 1, by omega⟩
 have hb := bind_l hF26; clear hF26
 obtain ⟨qrm31, H, hF26⟩ := hb
 have hnk30 : k30 < a.length := by omega
 have hIk30 : InI ((k30 : Int) + 1) := inI_len hk30 ml22
 refine GoC.skip ?_
 refine GoK.code ?_
 refine GoC.seq ?_
 refine GoC.block ?_
 refine GoC.seq ?_
 refine GoC.region ?_
 refine GoO.pure (ps_move rfl rfl) ?_
 refine GoO.pure (ps_indexAddrRN rfl rfl hnk30 rfl) ?_
 refine GoO.pure (ps_loadR rfl hnk30 rfl rfl) ?_
 refine GoO.pure (ps_assign rfl rfl) ?_
 refine GoO.pure (ps_assign rfl rfl) ?_
 refine GoO.nil ?_
 refine GoK.code ?_
 refine GoC.seq ?_
 refine GoC.drawA (.q 0 (.q 1 (.q 2 (.q 3 (.q 4 (.q 6 (.q 7 (.q 8 (.q 9 (.q 10 (.one 5 (.one 11 (.q 12 (.q 13 (.done))))))))))))))) follows (by kernel_rfl) ?_
 refine GoP.qN rfl (ps_move rfl rfl) ?_
 refine GoP.qN rfl (ps_move rfl rfl) ?_
 refine GoP.qN rfl (ps_move rfl rfl) ?_
 have c32 := ck_l H; replace H := ck_r H
 refine GoP.qN rfl (ps_indexAddrRN rfl rfl c32 rfl) ?_
 refine GoP.qN rfl (ps_loadR rfl c32 rfl rfl) ?_
 refine GoP.qN rfl (ps_move rfl rfl) ?_
 refine GoP.qN rfl (ps_move rfl rfl) ?_
 refine GoP.qN rfl (ps_move rfl rfl) ?_
 have c33 := ck_l H; replace H := ck_r H
 refine GoP.qN rfl (ps_indexAddrRN rfl rfl c33 rfl) ?_
 refine GoP.qN rfl (ps_loadR rfl c33 rfl rfl) ?_
 have hb := bind_l H; clear H
 obtain ⟨r34, e35, H⟩ := hb
 refine GoP.oneC rfl trivial (ef_call rfl (Take.nil _) (Take.nil _) (slices_Index_int_spec (a.getD k30 []) (p.getD k30 (0 : Int)) e35) (LendL.cons (Lend.refl _ _) (LendL.cons (Lend.refl _ _) (LendL.nil))) rfl (slices_Index_int_I (r34))) (Take.cons _ _ _ _ _ Rem.p0 (Take.cons _ _ _ _ _ Rem.p0 (Take.nil _))) (fun rr HH hp => ?_)
 obtain ⟨rfl, rfl⟩ := hp
 have hb := bind_l H; clear H
 obtain ⟨r36, e37, H⟩ := hb
 refine GoP.oneC rfl trivial (ef_call rfl (Take.nil _) (Take.nil _) (slices_Index_int_spec (a.getD k30 []) (q.getD k30 (0 : Int)) e37) (LendL.cons (Lend.refl _ _) (LendL.cons (Lend.refl _ _) (LendL.nil))) rfl (slices_Index_int_I (r36))) (Take.cons _ _ _ _ _ Rem.p0 (Take.cons _ _ _ _ _ Rem.p0 (Take.nil _))) (fun rr HH hp => ?_)
 obtain ⟨rfl, rfl⟩ := hp
 refine GoP.qN rfl (ps_assign rfl rfl) ?_
 refine GoP.qN rfl (ps_assign rfl rfl) ?_
 refine GoP.done ?_
 refine GoK.code ?_
 refine GoC.drawP (.q 0 (.q 1 (.q 2 (.q 3 (.q 4 (.q 5 (.q 6 (.q 7 (.q 8 (.q 9 (.q 10 (.q 11 (.q 12 (.q 13 (.q 14 (.q 15 (.q 16 (.one 17 (.q 18 (.one 19 (.done))))))))))))))))))))) [] follows (by kernel_rfl) (Take.nil _) ?_
 refine GoP.qN rfl (ps_move rfl rfl) ?_
 refine GoP.qN rfl (ps_move rfl rfl) ?_
 refine GoP.qN rfl (ps_move rfl rfl) ?_
 refine GoP.qN rfl (ps_move rfl rfl) ?_
 refine GoP.qN rfl (ps_move rfl rfl) ?_
 refine GoP.qN rfl (ps_move rfl rfl) ?_
 refine GoP.qN rfl (ps_move rfl rfl) ?_
 refine GoP.qN rfl (ps_min rfl rfl rfl) ?_
 have c38 := ck_l H; replace H := ck_r H
 refine GoP.qN rfl (ps_indexAddrR rfl rfl c38 rfl) ?_
 refine GoP.qN rfl (ps_loadR rfl (idx_lt c38) rfl rfl) ?_
 refine GoP.qN rfl (ps_move rfl rfl) ?_
 refine GoP.qN rfl (ps_move rfl rfl) ?_
 refine GoP.qN rfl (ps_move rfl rfl) ?_
 refine GoP.qN rfl (ps_max rfl rfl rfl) ?_
 have c39 := ck_l H; replace H := ck_r H
 refine GoP.qN rfl (ps_indexAddrR rfl rfl c39 rfl) ?_
 refine GoP.qN rfl (ps_loadR rfl (idx_lt c39) rfl rfl) ?_
 have c40 := ck_l H; replace H := ck_r H
 refine GoP.qN rfl (ps_indexAddr0N rfl rfl c40 rfl) ?_
 refine GoP.one1 rfl trivial (ef_store rfl rfl rfl At.p0 (upd_row1 (v := ((a.getD k30 []).getD ((min r34 r36).toNat) (0 : Int))) rfl) c40 rfl) (Take.cons _ _ _ _ _ Rem.p0 (Take.nil _)) ?_
 have c41 := ck_l H; replace H := ck_r H
 refine GoP.qN rfl (ps_indexAddr0N rfl rfl c41 rfl) ?_
 refine GoP.one1 rfl trivial (ef_store rfl rfl rfl At.p1 (upd_row1 (v := ((a.getD k30 []).getD ((max r34 r36).toNat) (0 : Int))) rfl) c41 rfl) (Take.cons _ _ _ _ _ Rem.p1 (Take.nil _)) ?_
 refine GoP.done ?_
 refine GoK.blk ?_
 refine GoK.code ?_
 refine GoC.region ?_
 refine GoO.pure (ps_add rfl rfl rfl hIk30) ?_
 refine GoO.pure (ps_move rfl rfl) ?_
 refine GoO.nil ?_
 obtain rfl := Option.some.inj H
 exact GoK.againJ m31' (by omega) ⟨_, _, _, ⟨by omega, hF26⟩, rfl, rfl⟩ (EnvD.eq rfl (EnvD.cons rfl (DLe.len (by first | rfl | omega | (simp only [row_len, List.length_set, List.length_cons, List.length_nil, List.length_nil] <;> first | rfl | omega))) (EnvD.cons rfl (DLe.len (by first | rfl | omega | (simp only [row_len, List.length_set, List.length_cons, List.length_nil, List.length_nil] <;> first | rfl | omega))) (EnvD.eq rfl (EnvD.eq rfl (EnvD.eq rfl (EnvD.eq rfl (EnvD.nil)))))))) (TkD.cons _ _ _ _ _ Rem.p0 (HLe.refl _) (TkD.cons _ _ _ _ _ Rem.p0 (HLe.refl _) (TkD.nil _)))
 obtain rfl : m31 = 0 := by omega
 refine GoC.exit rfl ?_
 cases hF26
 exact GoK.meet ⟨rfl, rfl⟩ (EnvD.cons rfl (DLe.len (by first | rfl | omega | (simp only [row_len] <;> first | rfl | omega))) (EnvD.cons rfl (DLe.len (by first | rfl | omega | (simp only [row_len] <;> first | rfl | omega))) (EnvD.nil))) (TkD.cons _ _ _ _ _ Rem.p0 (HLe.refl _) (TkD.cons _ _ _ _ _ Rem.p0 (HLe.refl _) (TkD.nil _)))
 rintro v h ⟨rfl, rfl⟩
 have H := HK25; clear HK25
 refine GoK.code ?_
 refine GoC.seq ?_
 refine GoC.region ?_
 refine GoO.pure (ps_move rfl rfl) ?_
 refine GoO.pure (ps_move rfl rfl) ?_
 refine GoO.pure (ps_assign rfl rfl) ?_
 refine GoO.pure (ps_assign rfl rfl) ?_
 refine GoO.pure (ps_assign rfl rfl) ?_
 refine GoO.nil ?_
 refine GoK.code ?_
 obtain rfl := Option.some.inj H
 exact GoC.retL (ds := [.own β18 1 0 l28.length, .own β20 1 0 l29.length, .v (.int .i64 0)]) Try.results25 (ResL.cons (ResD.tmp rfl) (ResL.cons (ResD.tmp rfl) (ResL.cons (ResD.tmp rfl) (ResL.nil)))) (Take.cons _ _ _ _ _ Rem.p0 (Take.cons _ _ _ _ _ Rem.p0 (Take.nil _))) ⟨β18, β20, rfl, rfl⟩

end Go.Proofs.Ytdjllkoljpjohaa
