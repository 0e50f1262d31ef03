/- The functions stable.Check, stable.checkPairs, stable.Pair, stable.refused, stable.Both, stable.Best, told as plain functions, and that the code does as they say. -/
import Derived.Test.YtdjllkoljpjohaaTys
import Derived.Test.YtdjllkoljpjohaaDat
import Derived.Test.YtdjllkoljpjohaaGslices
namespace Go.Proofs.Ytdjllkoljpjohaa
open Go Go.Proofs.Ytdjllkoljpjohaa.Sx
set_option linter.unusedVariables false
set_option linter.unusedSimpArgs false
def stable_Check_B2 (r6 : (List (List Int))) (k13 : Nat) : Nat → Unit → Option (Ct (Unit) (Ct (Unit) (Int))) := fun k20 _ =>
 (slices_Contains_int_F (r6.getD k13 []) ((k20 : Nat) : Int)).bind fun r22 =>
 if (!r22) = true then
  some (.ret (.ret 3))
 else
  some (.go ())
def stable_Check_B1 (a : (List (List Int))) (r6 : (List (List Int))) : Nat → Unit → Option (Ct (Unit) (Int)) := fun k13 _ =>
 if (((r6.getD k13 []).length : Nat) : Int) ≠ ((a.length : Nat) : Int) then
  some (.ret 3)
 else
  (forC (stable_Check_B2 r6 k13) ((r6.getD k13 []).length) 0 ()).bind fun q => match q with
  | .go _ =>
   some (.go ())
  | .ret x => some x
def stable_Check_F (a : (List (List Int))) (b : (List (List Int))) : Option (Int) :=
 if 6 < ((a.length : Nat) : Int) then
  some 2
 else
  if ((b.length : Nat) : Int) ≠ ((a.length : Nat) : Int) then
   some 3
  else
   (slices_Concat_intL_F ([a, b] : List (List (List Int)))).bind fun r6 =>
   (forC (stable_Check_B1 a r6) r6.length 0 ()).bind fun q => match q with
   | .go _ =>
    some 0
   | .ret x => some x
def stable_Check_P (out : Int) (d : D) (H : List HL) : Prop := d = .v (.int .i64 out) ∧ H = []
theorem stable_Check_I (out : Int) : IndepP (stable_Check_P out) := IndepP.of (by rintro _ _ ⟨rfl, rfl⟩; exact ⟨inferInstance, inferInstance⟩)
set_option maxRecDepth 100000 in
set_option maxHeartbeats 4000000 in
theorem stable_Check_spec (a : (List (List Int))) (b : (List (List Int))) {out : Int} (H : stable_Check_F a b = some out) : Does Try.prog 50 [slD a, slD b] [] (stable_Check_P out) := by
 unfold stable_Check_F at H
 refine Does.intro Try.func50 rfl Try.ntmps50 rfl fun w0 I0 => ?_
 refine GoC.seq ?_
 refine GoC.region ?_
 refine GoO.pure (ps_assign rfl rfl) ?_
 refine GoO.nil ?_
 refine GoK.code ?_
 refine GoC.seq ?_
 refine GoC.seq ?_
 refine GoC.region ?_
 refine GoO.pure (ps_move rfl rfl) ?_
 refine GoO.pure (ps_len rfl (by constructor) rfl) ?_
 refine GoO.lenLe (n := a.length) (x := .tmp 8) rfl (by constructor) sl_lenLe (fun ml1 => ?_)
 refine GoO.pure (ps_gtr rfl rfl rfl) ?_
 refine GoO.nil ?_
 refine GoK.code ?_
 refine GoC.condD rfl (fun h2 => ?_) (fun h2 => ?_)
 replace H := ite_t h2 H
 refine GoC.seq ?_
 refine GoC.region ?_
 refine GoO.pure (ps_assign rfl rfl) ?_
 refine GoO.nil ?_
 refine GoK.code ?_
 obtain rfl := Option.some.inj H
 exact GoC.retL (ds := [.v (.int .i64 2)]) Try.results50 (ResL.cons (ResD.tmp rfl) (ResL.nil)) (Take.nil _) ⟨rfl, rfl⟩
 replace H := ite_f h2 H
 refine GoC.skip ?_
 refine GoK.code ?_
 refine GoC.seq ?_
 refine GoC.seq ?_
 refine GoC.region ?_
 refine GoO.pure (ps_move rfl rfl) ?_
 refine GoO.pure (ps_len rfl (by constructor) rfl) ?_
 refine GoO.lenLe (n := b.length) (x := .tmp 11) rfl (by constructor) sl_lenLe (fun ml3 => ?_)
 refine GoO.pure (ps_move rfl rfl) ?_
 refine GoO.pure (ps_len rfl (by constructor) rfl) ?_
 refine GoO.pure (ps_neq rfl rfl rfl) ?_
 refine GoO.nil ?_
 refine GoK.code ?_
 refine GoC.condD rfl (fun h4 => ?_) (fun h4 => ?_)
 replace H := ite_t h4 H
 refine GoC.seq ?_
 refine GoC.region ?_
 refine GoO.pure (ps_assign rfl rfl) ?_
 refine GoO.nil ?_
 refine GoK.code ?_
 obtain rfl := Option.some.inj H
 exact GoC.retL (ds := [.v (.int .i64 3)]) Try.results50 (ResL.cons (ResD.tmp rfl) (ResL.nil)) (Take.nil _) ⟨rfl, rfl⟩
 replace H := ite_f h4 H
 refine GoC.skip ?_
 refine GoK.code ?_
 refine GoC.seq ?_
 refine GoC.seq ?_
 refine GoC.region ?_
 refine GoO.pure (ps_move rfl rfl) ?_
 refine GoO.pure (ps_move rfl rfl) ?_
 refine GoO.effB (ef_buildSlice (row ([a, b] : List (List (List Int)))) rfl (Parts.cons _ _ _ _ _ _ _ _ ⟨rfl, rfl⟩ (Part.one _ rfl rfl) rfl rfl (Parts.cons _ _ _ _ _ _ _ _ ⟨rfl, rfl⟩ (Part.one _ rfl rfl) rfl rfl (Parts.nil _))) rfl rfl rfl rfl) (fun β5 => ?_)
 have hb := bind_l H; clear H
 obtain ⟨r6, e8, H⟩ := hb
 refine GoO.callF rfl (Take.nil _) (Take.cons _ _ _ _ _ Rem.p0 (Take.nil _)) (slices_Concat_intL_spec ([a, b] : List (List (List Int))) e8) (LendL.cons (Lend.all' At.p0 (by first | rfl | omega | (simp only [subl_length, cpl_length, List.length_set, List.length_append, List.length_cons, List.length_nil, List.length_replicate, row_len] <;> first | rfl | omega)) rfl) (LendL.nil)) rfl no_fps (fun rr HH hp => ?_)
 obtain ⟨β7, rfl, rfl⟩ := hp
 refine GoO.pure (ps_len rfl (by constructor) rfl) ?_
 refine GoO.lenLe (n := r6.length) (x := .tmp 19) rfl (by constructor) own_lenLe (fun ml9 => ?_)
 refine GoO.pure (ps_move rfl rfl) ?_
 refine GoO.nil ?_
 refine GoK.code ?_
 have hb := bind_l H; clear H
 obtain ⟨q12, hl26, HK10⟩ := hb
 refine GoC.blockJ [] [.one β7 24 1 (row r6)] (fun v h => q12 = .go () ∧ v = [] ∧ h = []) ?_ ?_
 refine GoC.loopJ [(0, _), (19, _), (20, _)] [.one β7 24 1 (row r6)] (fun m v h => ∃ (k13 : Nat), (k13 + m = r6.length ∧ forC (stable_Check_B1 a r6) m k13 () = some q12) ∧ v = [(21, .v (.int .i64 ((k13 : Nat) : Int)))] ∧ h = []) r6.length ⟨_, ⟨by omega, hl26⟩, rfl, rfl⟩ (EnvD.eq rfl (EnvD.eq rfl (EnvD.eq rfl (EnvD.eq rfl (EnvD.nil))))) (TkD.cons _ _ _ _ _ Rem.p0 (HLe.refl _) (TkD.nil _)) ?_
 rintro m14 v h ⟨k13, ⟨hkk13, hF11⟩, rfl, rfl⟩
 refine GoC.seq ?_
 refine GoC.region ?_
 refine GoO.pure (ps_lss rfl rfl rfl) ?_
 refine GoO.nil ?_
 refine GoK.code ?_
 refine GoC.seq ?_
 refine GoC.condD rfl (fun (hk13 : (k13 : Int) < ((r6.length : Nat) : Int)) => ?_) (fun (hk13 : ¬ (k13 : Int) < ((r6.length : Nat) : Int)) => ?_)
 obtain ⟨m14', rfl⟩ : ∃ x, m14 = x + 1 := ⟨m14 - 1, by omega⟩
 have hb := bind_l hF11; clear hF11
 obtain ⟨qrm14, H, hF11⟩ := hb
 have hnk13 : k13 < r6.length := by omega
 have hIk13 : InI ((k13 : Int) + 1) := inI_len hk13 ml9
 refine GoC.skip ?_
 refine GoK.code ?_
 refine GoC.seq ?_
 refine GoC.block ?_
 refine GoC.seq ?_
 refine GoC.region ?_
 refine GoO.pure (ps_indexAddr0N rfl rfl hnk13 rfl) ?_
 refine GoO.pure (ps_load rfl At.p0 At.p0 hnk13 rfl rfl) ?_
 refine GoO.pure (ps_assign rfl rfl) ?_
 refine GoO.nil ?_
 refine GoK.code ?_
 refine GoC.seq ?_
 refine GoC.seq ?_
 refine GoC.region ?_
 refine GoO.pure (ps_move rfl rfl) ?_
 refine GoO.pure (ps_len rfl (by constructor) rfl) ?_
 refine GoO.lenLe (n := (r6.getD k13 []).length) (x := .tmp 25) rfl (by constructor) sl_lenLe (fun ml15 => ?_)
 refine GoO.pure (ps_move rfl rfl) ?_
 refine GoO.pure (ps_len rfl (by constructor) rfl) ?_
 refine GoO.pure (ps_neq rfl rfl rfl) ?_
 refine GoO.nil ?_
 refine GoK.code ?_
 refine GoC.condD rfl (fun h16 => ?_) (fun h16 => ?_)
 replace H := ite_t h16 H
 refine GoC.seq ?_
 refine GoC.region ?_
 refine GoO.pure (ps_assign rfl rfl) ?_
 refine GoO.nil ?_
 refine GoK.code ?_
 obtain rfl := Option.some.inj H
 obtain rfl := Option.some.inj hF11
 obtain rfl := Option.some.inj HK10
 exact GoC.retL (ds := [.v (.int .i64 3)]) Try.results50 (ResL.cons (ResD.tmp rfl) (ResL.nil)) (Take.nil _) ⟨rfl, rfl⟩
 replace H := ite_f h16 H
 refine GoC.skip ?_
 refine GoK.code ?_
 refine GoC.seq ?_
 refine GoC.region ?_
 refine GoO.pure (ps_move rfl rfl) ?_
 refine GoO.pure (ps_len rfl (by constructor) rfl) ?_
 refine GoO.pure (ps_move rfl rfl) ?_
 refine GoO.nil ?_
 refine GoK.code ?_
 have hb := bind_l H; clear H
 obtain ⟨q19, hl25, HK17⟩ := hb
 refine GoC.blockJ [(0, slD a), (19, .own β7 1 0 r6.length), (20, .v (.int .i64 ((r6.length : Nat) : Int))), (21, .v (.int .i64 ((k13 : Nat) : Int)))] [.one β7 24 1 (row r6)] (fun v h => q19 = .go () ∧ v = [] ∧ h = []) ?_ ?_
 refine GoC.loopJ [(0, _), (6, _), (19, _), (20, _), (21, _), (31, _)] [.one β7 24 1 (row r6)] (fun m v h => ∃ (k20 : Nat), (k20 + m = (r6.getD k13 []).length ∧ forC (stable_Check_B2 r6 k13) m k20 () = some q19) ∧ v = [(32, .v (.int .i64 ((k20 : Nat) : Int)))] ∧ h = []) ((r6.getD k13 []).length) ⟨_, ⟨by omega, hl25⟩, rfl, rfl⟩ (EnvD.eq rfl (EnvD.eq rfl (EnvD.eq rfl (EnvD.eq rfl (EnvD.eq rfl (EnvD.eq rfl (EnvD.eq rfl (EnvD.nil)))))))) (TkD.cons _ _ _ _ _ Rem.p0 (HLe.refl _) (TkD.nil _)) ?_
 rintro m21 v h ⟨k20, ⟨hkk20, hF18⟩, rfl, rfl⟩
 refine GoC.seq ?_
 refine GoC.region ?_
 refine GoO.pure (ps_lss rfl rfl rfl) ?_
 refine GoO.nil ?_
 refine GoK.code ?_
 refine GoC.seq ?_
 refine GoC.condD rfl (fun (hk20 : (k20 : Int) < (((r6.getD k13 []).length : Nat) : Int)) => ?_) (fun (hk20 : ¬ (k20 : Int) < (((r6.getD k13 []).length : Nat) : Int)) => ?_)
 obtain ⟨m21', rfl⟩ : ∃ x, m21 = x + 1 := ⟨m21 - 1, by omega⟩
 have hb := bind_l hF18; clear hF18
 obtain ⟨qrm21, H, hF18⟩ := hb
 have hnk20 : k20 < (r6.getD k13 []).length := by omega
 have hIk20 : InI ((k20 : Int) + 1) := inI_len hk20 ml15
 refine GoC.skip ?_
 refine GoK.code ?_
 refine GoC.seq ?_
 refine GoC.block ?_
 refine GoC.seq ?_
 refine GoC.region ?_
 refine GoO.pure (ps_move rfl rfl) ?_
 refine GoO.pure (ps_assign rfl rfl) ?_
 refine GoO.nil ?_
 refine GoK.code ?_
 refine GoC.seq ?_
 refine GoC.region ?_
 refine GoO.pure (ps_move rfl rfl) ?_
 refine GoO.pure (ps_move rfl rfl) ?_
 have hb := bind_l H; clear H
 obtain ⟨r22, e23, H⟩ := hb
 refine GoO.effC (ef_call rfl (Take.nil _) (Take.nil _) (slices_Contains_int_spec (r6.getD k13 []) ((k20 : Nat) : Int) e23) (LendL.cons (Lend.refl _ _) (LendL.cons (Lend.refl _ _) (LendL.nil))) rfl (slices_Contains_int_I (r22))) (fun rr HH hp => ?_)
 obtain ⟨rfl, rfl⟩ := hp
 refine GoO.pure (ps_not rfl rfl) ?_
 refine GoO.nil ?_
 refine GoK.code ?_
 refine GoC.cond rfl (fun h24 => ?_) (fun h24 => ?_)
 replace H := itb_t h24 H
 refine GoC.seq ?_
 refine GoC.region ?_
 refine GoO.pure (ps_assign rfl rfl) ?_
 refine GoO.nil ?_
 refine GoK.code ?_
 obtain rfl := Option.some.inj H
 obtain rfl := Option.some.inj hF18
 obtain rfl := Option.some.inj HK17
 obtain rfl := Option.some.inj hF11
 obtain rfl := Option.some.inj HK10
 exact GoC.retL (ds := [.v (.int .i64 3)]) Try.results50 (ResL.cons (ResD.tmp rfl) (ResL.nil)) (Take.nil _) ⟨rfl, rfl⟩
 replace H := itb_f h24 H
 refine GoC.skip ?_
 refine GoK.blk ?_
 refine GoK.code ?_
 refine GoC.region ?_
 refine GoO.pure (ps_add rfl rfl rfl hIk20) ?_
 refine GoO.pure (ps_move rfl rfl) ?_
 refine GoO.nil ?_
 obtain rfl := Option.some.inj H
 exact GoK.againJ m21' (by omega) ⟨_, ⟨by omega, hF18⟩, rfl, rfl⟩ (EnvD.eq rfl (EnvD.eq rfl (EnvD.eq rfl (EnvD.eq rfl (EnvD.eq rfl (EnvD.eq rfl (EnvD.eq rfl (EnvD.nil)))))))) (TkD.cons _ _ _ _ _ Rem.p0 (HLe.refl _) (TkD.nil _))
 obtain rfl : m21 = 0 := by omega
 refine GoC.exit rfl ?_
 cases hF18
 exact GoK.meet ⟨rfl, rfl, rfl⟩ (EnvD.eq rfl (EnvD.eq rfl (EnvD.eq rfl (EnvD.eq rfl (EnvD.nil))))) (TkD.cons _ _ _ _ _ Rem.p0 (HLe.refl _) (TkD.nil _))
 rintro v h ⟨rfl, rfl, rfl⟩
 have H := HK17; clear HK17
 refine GoK.blk ?_
 refine GoK.code ?_
 refine GoC.region ?_
 refine GoO.pure (ps_add rfl rfl rfl hIk13) ?_
 refine GoO.pure (ps_move rfl rfl) ?_
 refine GoO.nil ?_
 obtain rfl := Option.some.inj H
 exact GoK.againJ m14' (by omega) ⟨_, ⟨by omega, hF11⟩, rfl, rfl⟩ (EnvD.eq rfl (EnvD.eq rfl (EnvD.eq rfl (EnvD.eq rfl (EnvD.nil))))) (TkD.cons _ _ _ _ _ Rem.p0 (HLe.refl _) (TkD.nil _))
 obtain rfl : m14 = 0 := by omega
 refine GoC.exit rfl ?_
 cases hF11
 exact GoK.meet ⟨rfl, rfl, rfl⟩ (EnvD.nil) (TkD.cons _ _ _ _ _ Rem.p0 (HLe.refl _) (TkD.nil _))
 rintro v h ⟨rfl, rfl, rfl⟩
 have H := HK10; clear HK10
 refine GoK.code ?_
 refine GoC.seq ?_
 refine GoC.region ?_
 refine GoO.pure (ps_assign rfl rfl) ?_
 refine GoO.nil ?_
 refine GoK.code ?_
 obtain rfl := Option.some.inj H
 exact GoC.retL (ds := [.v (.int .i64 0)]) Try.results50 (ResL.cons (ResD.tmp rfl) (ResL.nil)) (Take.nil _) ⟨rfl, rfl⟩

def stable_checkPairs_B1 (p : (List Int)) : Nat → Unit → Option (Ct (Unit) (Int)) := fun k10 _ =>
 (slices_Contains_int_F p ((k10 : Nat) : Int)).bind fun r12 =>
 if (!r12) = true then
  some (.ret 3)
 else
  some (.go ())
def stable_checkPairs_F (a : (List (List Int))) (b : (List (List Int))) (p : (List Int)) : Option (Int) :=
 (stable_Check_F a b).bind fun r1 =>
 if r1 ≠ 0 then
  some r1
 else
  if ((p.length : Nat) : Int) ≠ ((a.length : Nat) : Int) then
   some 3
  else
   (forC (stable_checkPairs_B1 p) p.length 0 ()).bind fun q => match q with
   | .go _ =>
    some 0
   | .ret x => some x
def stable_checkPairs_P (out : Int) (d : D) (H : List HL) : Prop := d = .v (.int .i64 out) ∧ H = []
theorem stable_checkPairs_I (out : Int) : IndepP (stable_checkPairs_P out) := IndepP.of (by rintro _ _ ⟨rfl, rfl⟩; exact ⟨inferInstance, inferInstance⟩)
set_option maxRecDepth 100000 in
set_option maxHeartbeats 4000000 in
theorem stable_checkPairs_spec (a : (List (List Int))) (b : (List (List Int))) (p : (List Int)) {out : Int} (H : stable_checkPairs_F a b p = some out) : Does Try.prog 49 [slD a, slD b, slD p] [] (stable_checkPairs_P out) := by
 unfold stable_checkPairs_F at H
 refine Does.intro Try.func49 rfl Try.ntmps49 rfl fun w0 I0 => ?_
 refine GoC.seq ?_
 refine GoC.region ?_
 refine GoO.pure (ps_assign rfl rfl) ?_
 refine GoO.nil ?_
 refine GoK.code ?_
 refine GoC.seq ?_
 refine GoC.seq ?_
 refine GoC.region ?_
 refine GoO.pure (ps_move rfl rfl) ?_
 refine GoO.pure (ps_move rfl rfl) ?_
 have hb := bind_l H; clear H
 obtain ⟨r1, e2, H⟩ := hb
 refine GoO.effC (ef_call rfl (Take.nil _) (Take.nil _) (stable_Check_spec a b e2) (LendL.cons (Lend.refl _ _) (LendL.cons (Lend.refl _ _) (LendL.nil))) rfl (stable_Check_I (r1))) (fun rr HH hp => ?_)
 obtain ⟨rfl, rfl⟩ := hp
 refine GoO.pure (ps_assign rfl rfl) ?_
 refine GoO.nil ?_
 refine GoK.code ?_
 refine GoC.seq ?_
 refine GoC.region ?_
 refine GoO.pure (ps_move rfl rfl) ?_
 refine GoO.pure (ps_neq rfl rfl rfl) ?_
 refine GoO.nil ?_
 refine GoK.code ?_
 refine GoC.condD rfl (fun h3 => ?_) (fun h3 => ?_)
 replace H := ite_t h3 H
 refine GoC.seq ?_
 refine GoC.region ?_
 refine GoO.pure (ps_move rfl rfl) ?_
 refine GoO.pure (ps_assign rfl rfl) ?_
 refine GoO.nil ?_
 refine GoK.code ?_
 obtain rfl := Option.some.inj H
 exact GoC.retL (ds := [.v (.int .i64 r1)]) Try.results49 (ResL.cons (ResD.tmp rfl) (ResL.nil)) (Take.nil _) ⟨rfl, rfl⟩
 replace H := ite_f h3 H
 refine GoC.skip ?_
 refine GoK.code ?_
 refine GoC.seq ?_
 refine GoC.seq ?_
 refine GoC.region ?_
 refine GoO.pure (ps_move rfl rfl) ?_
 refine GoO.pure (ps_len rfl (by constructor) rfl) ?_
 refine GoO.lenLe (n := p.length) (x := .tmp 15) rfl (by constructor) sl_lenLe (fun ml4 => ?_)
 refine GoO.pure (ps_move rfl rfl) ?_
 refine GoO.pure (ps_len rfl (by constructor) rfl) ?_
 refine GoO.lenLe (n := a.length) (x := .tmp 17) rfl (by constructor) sl_lenLe (fun ml5 => ?_)
 refine GoO.pure (ps_neq rfl rfl rfl) ?_
 refine GoO.nil ?_
 refine GoK.code ?_
 refine GoC.condD rfl (fun h6 => ?_) (fun h6 => ?_)
 replace H := ite_t h6 H
 refine GoC.seq ?_
 refine GoC.region ?_
 refine GoO.pure (ps_assign rfl rfl) ?_
 refine GoO.nil ?_
 refine GoK.code ?_
 obtain rfl := Option.some.inj H
 exact GoC.retL (ds := [.v (.int .i64 3)]) Try.results49 (ResL.cons (ResD.tmp rfl) (ResL.nil)) (Take.nil _) ⟨rfl, rfl⟩
 replace H := ite_f h6 H
 refine GoC.skip ?_
 refine GoK.code ?_
 refine GoC.seq ?_
 refine GoC.seq ?_
 refine GoC.region ?_
 refine GoO.pure (ps_move rfl rfl) ?_
 refine GoO.pure (ps_len rfl (by constructor) rfl) ?_
 refine GoO.pure (ps_move rfl rfl) ?_
 refine GoO.nil ?_
 refine GoK.code ?_
 have hb := bind_l H; clear H
 obtain ⟨q9, hl15, HK7⟩ := hb
 refine GoC.blockJ [] [] (fun v h => q9 = .go () ∧ v = [] ∧ h = []) ?_ ?_
 refine GoC.loopJ [(2, _), (21, _)] [] (fun m v h => ∃ (k10 : Nat), (k10 + m = p.length ∧ forC (stable_checkPairs_B1 p) m k10 () = some q9) ∧ v = [(22, .v (.int .i64 ((k10 : Nat) : Int)))] ∧ h = []) p.length ⟨_, ⟨by omega, hl15⟩, rfl, rfl⟩ (EnvD.eq rfl (EnvD.eq rfl (EnvD.eq rfl (EnvD.nil)))) (TkD.nil _) ?_
 rintro m11 v h ⟨k10, ⟨hkk10, hF8⟩, rfl, rfl⟩
 refine GoC.seq ?_
 refine GoC.region ?_
 refine GoO.pure (ps_lss rfl rfl rfl) ?_
 refine GoO.nil ?_
 refine GoK.code ?_
 refine GoC.seq ?_
 refine GoC.condD rfl (fun (hk10 : (k10 : Int) < ((p.length : Nat) : Int)) => ?_) (fun (hk10 : ¬ (k10 : Int) < ((p.length : Nat) : Int)) => ?_)
 obtain ⟨m11', rfl⟩ : ∃ x, m11 = x + 1 := ⟨m11 - 1, by omega⟩
 have hb := bind_l hF8; clear hF8
 obtain ⟨qrm11, H, hF8⟩ := hb
 have hnk10 : k10 < p.length := by omega
 have hIk10 : InI ((k10 : Int) + 1) := inI_len hk10 ml4
 refine GoC.skip ?_
 refine GoK.code ?_
 refine GoC.seq ?_
 refine GoC.block ?_
 refine GoC.seq ?_
 refine GoC.region ?_
 refine GoO.pure (ps_move rfl rfl) ?_
 refine GoO.pure (ps_assign rfl rfl) ?_
 refine GoO.nil ?_
 refine GoK.code ?_
 refine GoC.seq ?_
 refine GoC.region ?_
 refine GoO.pure (ps_move rfl rfl) ?_
 refine GoO.pure (ps_move rfl rfl) ?_
 have hb := bind_l H; clear H
 obtain ⟨r12, e13, H⟩ := hb
 refine GoO.effC (ef_call rfl (Take.nil _) (Take.nil _) (slices_Contains_int_spec p ((k10 : Nat) : Int) e13) (LendL.cons (Lend.refl _ _) (LendL.cons (Lend.refl _ _) (LendL.nil))) rfl (slices_Contains_int_I (r12))) (fun rr HH hp => ?_)
 obtain ⟨rfl, rfl⟩ := hp
 refine GoO.pure (ps_not rfl rfl) ?_
 refine GoO.nil ?_
 refine GoK.code ?_
 refine GoC.cond rfl (fun h14 => ?_) (fun h14 => ?_)
 replace H := itb_t h14 H
 refine GoC.seq ?_
 refine GoC.region ?_
 refine GoO.pure (ps_assign rfl rfl) ?_
 refine GoO.nil ?_
 refine GoK.code ?_
 obtain rfl := Option.some.inj H
 obtain rfl := Option.some.inj hF8
 obtain rfl := Option.some.inj HK7
 exact GoC.retL (ds := [.v (.int .i64 3)]) Try.results49 (ResL.cons (ResD.tmp rfl) (ResL.nil)) (Take.nil _) ⟨rfl, rfl⟩
 replace H := itb_f h14 H
 refine GoC.skip ?_
 refine GoK.blk ?_
 refine GoK.code ?_
 refine GoC.region ?_
 refine GoO.pure (ps_add rfl rfl rfl hIk10) ?_
 refine GoO.pure (ps_move rfl rfl) ?_
 refine GoO.nil ?_
 obtain rfl := Option.some.inj H
 exact GoK.againJ m11' (by omega) ⟨_, ⟨by omega, hF8⟩, rfl, rfl⟩ (EnvD.eq rfl (EnvD.eq rfl (EnvD.eq rfl (EnvD.nil)))) (TkD.nil _)
 obtain rfl : m11 = 0 := by omega
 refine GoC.exit rfl ?_
 cases hF8
 exact GoK.meet ⟨rfl, rfl, rfl⟩ (EnvD.nil) (TkD.nil _)
 rintro v h ⟨rfl, rfl, rfl⟩
 have H := HK7; clear HK7
 refine GoK.code ?_
 refine GoC.seq ?_
 refine GoC.region ?_
 refine GoO.pure (ps_assign rfl rfl) ?_
 refine GoO.nil ?_
 refine GoK.code ?_
 obtain rfl := Option.some.inj H
 exact GoC.retL (ds := [.v (.int .i64 0)]) Try.results49 (ResL.cons (ResD.tmp rfl) (ResL.nil)) (Take.nil _) ⟨rfl, rfl⟩

def stable_Pair_B2 (a : (List (List Int))) (b : (List (List Int))) (p : (List Int)) (k8 : Nat) (r11 : Int) : Nat → Unit → Option (Ct (Unit) (Ct (Unit) (Int × Int × Int))) := fun k19 _ =>
 ck (0 ≤ ((subl (a.getD k8 []) 0 r11.toNat).getD k19 (0 : Int)) ∧ ((subl (a.getD k8 []) 0 r11.toNat).getD k19 (0 : Int)) < ((b.length : Nat) : Int)) <|
 (slices_Index_int_F (b.getD (((subl (a.getD k8 []) 0 r11.toNat).getD k19 (0 : Int)).toNat) []) ((k8 : Nat) : Int)).bind fun r22 =>
 (slices_Index_int_F p ((subl (a.getD k8 []) 0 r11.toNat).getD k19 (0 : Int))).bind fun r24 =>
 (slices_Index_int_F (b.getD (((subl (a.getD k8 []) 0 r11.toNat).getD k19 (0 : Int)).toNat) []) r24).bind fun r26 =>
 if r22 < r26 then
  some (.ret (.ret (((k8 : Nat) : Int), ((subl (a.getD k8 []) 0 r11.toNat).getD k19 (0 : Int)), 0)))
 else
  some (.go ())
def stable_Pair_B1 (a : (List (List Int))) (b : (List (List Int))) (p : (List Int)) : Nat → Unit → Option (Ct (Unit) (Int × Int × Int)) := fun k8 _ =>
 ck (k8 < p.length) <|
 (slices_Index_int_F (a.getD k8 []) (p.getD k8 (0 : Int))).bind fun r11 =>
 ck (0 ≤ r11) <|
 ck (r11.toNat ≤ (a.getD k8 []).length) <|
 (forC (stable_Pair_B2 a b p k8 r11) ((subl (a.getD k8 []) 0 r11.toNat).length) 0 ()).bind fun q => match q with
 | .go _ =>
  some (.go ())
 | .ret x => some x
def stable_Pair_F (a : (List (List Int))) (b : (List (List Int))) (p : (List Int)) : Option (Int × Int × Int) :=
 (stable_checkPairs_F a b p).bind fun r1 =>
 if r1 ≠ 0 then
  some (0, 0, r1)
 else
  (forC (stable_Pair_B1 a b p) a.length 0 ()).bind fun q => match q with
  | .go _ =>
   some (0, 0, 5)
  | .ret x => some x
def stable_Pair_P (out : Int × Int × Int) (d : D) (H : List HL) : Prop := d = .tp 3 (nth [.v (.int .i64 out.1), .v (.int .i64 out.2.1), .v (.int .i64 out.2.2)]) ∧ H = []
theorem stable_Pair_I (out : Int × Int × Int) : IndepP (stable_Pair_P out) := IndepP.of (by rintro _ _ ⟨rfl, rfl⟩; exact ⟨inferInstance, inferInstance⟩)
set_option maxRecDepth 100000 in
set_option maxHeartbeats 4000000 in
theorem stable_Pair_spec (a : (List (List Int))) (b : (List (List Int))) (p : (List Int)) {out : Int × Int × Int} (H : stable_Pair_F a b p = some out) : Does Try.prog 26 [slD a, slD b, slD p] [] (stable_Pair_P out) := by
 unfold stable_Pair_F at H
 refine Does.intro Try.func26 rfl Try.ntmps26 rfl fun w0 I0 => ?_
 refine GoC.seq ?_
 refine GoC.region ?_
 refine GoO.pure (ps_assign rfl rfl) ?_
 refine GoO.pure (ps_assign rfl rfl) ?_
 refine GoO.pure (ps_assign rfl rfl) ?_
 refine GoO.nil ?_
 refine GoK.code ?_
 refine GoC.seq ?_
 refine GoC.seq ?_
 refine GoC.region ?_
 refine GoO.pure (ps_move rfl rfl) ?_
 refine GoO.pure (ps_move rfl rfl) ?_
 refine GoO.pure (ps_move rfl rfl) ?_
 have hb := bind_l H; clear H
 obtain ⟨r1, e2, H⟩ := hb
 refine GoO.effC (ef_call rfl (Take.nil _) (Take.nil _) (stable_checkPairs_spec a b p e2) (LendL.cons (Lend.refl _ _) (LendL.cons (Lend.refl _ _) (LendL.cons (Lend.refl _ _) (LendL.nil)))) rfl (stable_checkPairs_I (r1))) (fun rr HH hp => ?_)
 obtain ⟨rfl, rfl⟩ := hp
 refine GoO.pure (ps_assign rfl rfl) ?_
 refine GoO.nil ?_
 refine GoK.code ?_
 refine GoC.seq ?_
 refine GoC.region ?_
 refine GoO.pure (ps_move rfl rfl) ?_
 refine GoO.pure (ps_neq rfl rfl rfl) ?_
 refine GoO.nil ?_
 refine GoK.code ?_
 refine GoC.condD rfl (fun h3 => ?_) (fun h3 => ?_)
 replace H := ite_t h3 H
 refine GoC.seq ?_
 refine GoC.region ?_
 refine GoO.pure (ps_move rfl rfl) ?_
 refine GoO.pure (ps_assign rfl rfl) ?_
 refine GoO.pure (ps_assign rfl rfl) ?_
 refine GoO.pure (ps_assign rfl rfl) ?_
 refine GoO.nil ?_
 refine GoK.code ?_
 obtain rfl := Option.some.inj H
 exact GoC.retL (ds := [.v (.int .i64 0), .v (.int .i64 0), .v (.int .i64 r1)]) Try.results26 (ResL.cons (ResD.tmp rfl) (ResL.cons (ResD.tmp rfl) (ResL.cons (ResD.tmp rfl) (ResL.nil)))) (Take.nil _) ⟨rfl, rfl⟩
 replace H := ite_f h3 H
 refine GoC.skip ?_
 refine GoK.code ?_
 refine GoC.seq ?_
 refine GoC.seq ?_
 refine GoC.region ?_
 refine GoO.pure (ps_move rfl rfl) ?_
 refine GoO.pure (ps_len rfl (by constructor) rfl) ?_
 refine GoO.lenLe (n := a.length) (x := .tmp 21) rfl (by constructor) sl_lenLe (fun ml4 => ?_)
 refine GoO.pure (ps_move rfl rfl) ?_
 refine GoO.nil ?_
 refine GoK.code ?_
 have hb := bind_l H; clear H
 obtain ⟨q7, hl30, HK5⟩ := hb
 refine GoC.blockJ [] [] (fun v h => q7 = .go () ∧ v = [] ∧ h = []) ?_ ?_
 refine GoC.loopJ [(1, _), (2, _), (21, _), (22, _)] [] (fun m v h => ∃ (k8 : Nat), (k8 + m = a.length ∧ forC (stable_Pair_B1 a b p) m k8 () = some q7) ∧ v = [(23, .v (.int .i64 ((k8 : Nat) : Int)))] ∧ h = []) a.length ⟨_, ⟨by omega, hl30⟩, rfl, rfl⟩ (EnvD.eq rfl (EnvD.eq rfl (EnvD.eq rfl (EnvD.eq rfl (EnvD.eq rfl (EnvD.nil)))))) (TkD.nil _) ?_
 rintro m9 v h ⟨k8, ⟨hkk8, hF6⟩, rfl, rfl⟩
 refine GoC.seq ?_
 refine GoC.region ?_
 refine GoO.pure (ps_lss rfl rfl rfl) ?_
 refine GoO.nil ?_
 refine GoK.code ?_
 refine GoC.seq ?_
 refine GoC.condD rfl (fun (hk8 : (k8 : Int) < ((a.length : Nat) : Int)) => ?_) (fun (hk8 : ¬ (k8 : Int) < ((a.length : Nat) : Int)) => ?_)
 obtain ⟨m9', rfl⟩ : ∃ x, m9 = x + 1 := ⟨m9 - 1, by omega⟩
 have hb := bind_l hF6; clear hF6
 obtain ⟨qrm9, H, hF6⟩ := hb
 have hnk8 : k8 < a.length := by omega
 have hIk8 : InI ((k8 : Int) + 1) := inI_len hk8 ml4
 refine GoC.skip ?_
 refine GoK.code ?_
 refine GoC.seq ?_
 refine GoC.block ?_
 refine GoC.seq ?_
 refine GoC.region ?_
 refine GoO.pure (ps_move rfl rfl) ?_
 refine GoO.pure (ps_indexAddrRN rfl rfl hnk8 rfl) ?_
 refine GoO.pure (ps_loadR rfl hnk8 rfl rfl) ?_
 refine GoO.pure (ps_assign rfl rfl) ?_
 refine GoO.pure (ps_assign rfl rfl) ?_
 refine GoO.nil ?_
 refine GoK.code ?_
 refine GoC.seq ?_
 refine GoC.region ?_
 refine GoO.pure (ps_move rfl rfl) ?_
 refine GoO.pure (ps_move rfl rfl) ?_
 refine GoO.pure (ps_move rfl rfl) ?_
 refine GoO.pure (ps_move rfl rfl) ?_
 have c10 := ck_l H; replace H := ck_r H
 refine GoO.pure (ps_indexAddrRN rfl rfl c10 rfl) ?_
 refine GoO.pure (ps_loadR rfl c10 rfl rfl) ?_
 have hb := bind_l H; clear H
 obtain ⟨r11, e12, H⟩ := hb
 refine GoO.effC (ef_call rfl (Take.nil _) (Take.nil _) (slices_Index_int_spec (a.getD k8 []) (p.getD k8 (0 : Int)) e12) (LendL.cons (Lend.refl _ _) (LendL.cons (Lend.refl _ _) (LendL.nil))) rfl (slices_Index_int_I (r11))) (fun rr HH hp => ?_)
 obtain ⟨rfl, rfl⟩ := hp
 have c13 := ck_l H; replace H := ck_r H
 have c14 := ck_l H; replace H := ck_r H
 refine GoO.pure (ps_sliceR rfl (Bd.no _) (Bd.int _ _ _ _ rfl c13) (Nat.zero_le _) c14 rfl) ?_
 refine GoO.le (Le.re 35 rfl (DLe.part (xs := (a.getD k8 [])) (r := 0) (len := r11.toNat) (by have := c14; first | omega | (simp only [subl_length, cpl_length, List.length_set, List.length_append, List.length_cons, List.length_nil, List.length_replicate, row_len]; omega)))) ?_
 refine GoO.pure (ps_len rfl (by constructor) rfl) ?_
 refine GoO.lenLe (n := (subl (a.getD k8 []) 0 r11.toNat).length) (x := .tmp 35) rfl (by constructor) sl_lenLe (fun ml15 => ?_)
 refine GoO.pure (ps_move rfl rfl) ?_
 refine GoO.nil ?_
 refine GoK.code ?_
 have hb := bind_l H; clear H
 obtain ⟨q18, hl29, HK16⟩ := hb
 refine GoC.blockJ [(1, slD b), (2, slD p), (21, slD a), (22, .v (.int .i64 ((a.length : Nat) : Int))), (23, .v (.int .i64 ((k8 : Nat) : Int)))] [] (fun v h => q18 = .go () ∧ v = [] ∧ h = []) ?_ ?_
 refine GoC.loopJ [(1, _), (2, _), (10, _), (21, _), (22, _), (23, _), (35, _), (36, _)] [] (fun m v h => ∃ (k19 : Nat), (k19 + m = (subl (a.getD k8 []) 0 r11.toNat).length ∧ forC (stable_Pair_B2 a b p k8 r11) m k19 () = some q18) ∧ v = [(37, .v (.int .i64 ((k19 : Nat) : Int)))] ∧ h = []) ((subl (a.getD k8 []) 0 r11.toNat).length) ⟨_, ⟨by omega, hl29⟩, rfl, rfl⟩ (EnvD.eq rfl (EnvD.eq rfl (EnvD.eq rfl (EnvD.eq rfl (EnvD.eq rfl (EnvD.eq rfl (EnvD.eq rfl (EnvD.eq rfl (EnvD.eq rfl (EnvD.nil)))))))))) (TkD.nil _) ?_
 rintro m20 v h ⟨k19, ⟨hkk19, hF17⟩, rfl, rfl⟩
 refine GoC.seq ?_
 refine GoC.region ?_
 refine GoO.pure (ps_lss rfl rfl rfl) ?_
 refine GoO.nil ?_
 refine GoK.code ?_
 refine GoC.seq ?_
 refine GoC.condD rfl (fun (hk19 : (k19 : Int) < (((subl (a.getD k8 []) 0 r11.toNat).length : Nat) : Int)) => ?_) (fun (hk19 : ¬ (k19 : Int) < (((subl (a.getD k8 []) 0 r11.toNat).length : Nat) : Int)) => ?_)
 obtain ⟨m20', rfl⟩ : ∃ x, m20 = x + 1 := ⟨m20 - 1, by omega⟩
 have hb := bind_l hF17; clear hF17
 obtain ⟨qrm20, H, hF17⟩ := hb
 have hnk19 : k19 < (subl (a.getD k8 []) 0 r11.toNat).length := by omega
 have hIk19 : InI ((k19 : Int) + 1) := inI_len hk19 ml15
 refine GoC.skip ?_
 refine GoK.code ?_
 refine GoC.seq ?_
 refine GoC.block ?_
 refine GoC.seq ?_
 refine GoC.region ?_
 refine GoO.pure (ps_indexAddrRN rfl rfl hnk19 rfl) ?_
 refine GoO.pure (ps_loadR rfl hnk19 rfl rfl) ?_
 refine GoO.pure (ps_assign rfl rfl) ?_
 refine GoO.nil ?_
 refine GoK.code ?_
 refine GoC.seq ?_
 refine GoC.drawA (.q 0 (.q 1 (.q 2 (.q 3 (.q 4 (.q 6 (.q 7 (.q 8 (.q 9 (.q 10 (.q 11 (.one 5 (.one 12 (.one 13 (.q 14 (.done)))))))))))))))) follows (by kernel_rfl) ?_
 refine GoP.qN rfl (ps_move rfl rfl) ?_
 refine GoP.qN rfl (ps_move rfl rfl) ?_
 have c21 := ck_l H; replace H := ck_r H
 refine GoP.qN rfl (ps_indexAddrR rfl rfl c21 rfl) ?_
 refine GoP.qN rfl (ps_loadR rfl (idx_lt c21) rfl rfl) ?_
 refine GoP.qN rfl (ps_move rfl rfl) ?_
 refine GoP.qN rfl (ps_move rfl rfl) ?_
 refine GoP.qN rfl (ps_move rfl rfl) ?_
 refine GoP.qN rfl (ps_indexAddrR rfl rfl c21 rfl) ?_
 refine GoP.qN rfl (ps_loadR rfl (idx_lt c21) rfl rfl) ?_
 refine GoP.qN rfl (ps_move rfl rfl) ?_
 refine GoP.qN rfl (ps_move rfl rfl) ?_
 have hb := bind_l H; clear H
 obtain ⟨r22, e23, H⟩ := hb
 refine GoP.oneC rfl trivial (ef_call rfl (Take.nil _) (Take.nil _) (slices_Index_int_spec (b.getD (((subl (a.getD k8 []) 0 r11.toNat).getD k19 (0 : Int)).toNat) []) ((k8 : Nat) : Int) e23) (LendL.cons (Lend.refl _ _) (LendL.cons (Lend.refl _ _) (LendL.nil))) rfl (slices_Index_int_I (r22))) (Take.nil _) (fun rr HH hp => ?_)
 obtain ⟨rfl, rfl⟩ := hp
 have hb := bind_l H; clear H
 obtain ⟨r24, e25, H⟩ := hb
 refine GoP.oneC rfl trivial (ef_call rfl (Take.nil _) (Take.nil _) (slices_Index_int_spec p ((subl (a.getD k8 []) 0 r11.toNat).getD k19 (0 : Int)) e25) (LendL.cons (Lend.refl _ _) (LendL.cons (Lend.refl _ _) (LendL.nil))) rfl (slices_Index_int_I (r24))) (Take.nil _) (fun rr HH hp => ?_)
 obtain ⟨rfl, rfl⟩ := hp
 have hb := bind_l H; clear H
 obtain ⟨r26, e27, H⟩ := hb
 refine GoP.oneC rfl trivial (ef_call rfl (Take.nil _) (Take.nil _) (slices_Index_int_spec (b.getD (((subl (a.getD k8 []) 0 r11.toNat).getD k19 (0 : Int)).toNat) []) r24 e27) (LendL.cons (Lend.refl _ _) (LendL.cons (Lend.refl _ _) (LendL.nil))) rfl (slices_Index_int_I (r26))) (Take.nil _) (fun rr HH hp => ?_)
 obtain ⟨rfl, rfl⟩ := hp
 refine GoP.qN rfl (ps_lss rfl rfl rfl) ?_
 refine GoP.done ?_
 refine GoK.code ?_
 refine GoC.condD rfl (fun h28 => ?_) (fun h28 => ?_)
 replace H := ite_t h28 H
 refine GoC.seq ?_
 refine GoC.region ?_
 refine GoO.pure (ps_move rfl rfl) ?_
 refine GoO.pure (ps_move rfl rfl) ?_
 refine GoO.pure (ps_assign rfl rfl) ?_
 refine GoO.pure (ps_assign rfl rfl) ?_
 refine GoO.pure (ps_assign rfl rfl) ?_
 refine GoO.nil ?_
 refine GoK.code ?_
 obtain rfl := Option.some.inj H
 obtain rfl := Option.some.inj hF17
 obtain rfl := Option.some.inj HK16
 obtain rfl := Option.some.inj hF6
 obtain rfl := Option.some.inj HK5
 exact GoC.retL (ds := [.v (.int .i64 ((k8 : Nat) : Int)), .v (.int .i64 ((subl (a.getD k8 []) 0 r11.toNat).getD k19 (0 : Int))), .v (.int .i64 0)]) Try.results26 (ResL.cons (ResD.tmp rfl) (ResL.cons (ResD.tmp rfl) (ResL.cons (ResD.tmp rfl) (ResL.nil)))) (Take.nil _) ⟨rfl, rfl⟩
 replace H := ite_f h28 H
 refine GoC.skip ?_
 refine GoK.blk ?_
 refine GoK.code ?_
 refine GoC.region ?_
 refine GoO.pure (ps_add rfl rfl rfl hIk19) ?_
 refine GoO.pure (ps_move rfl rfl) ?_
 refine GoO.nil ?_
 obtain rfl := Option.some.inj H
 exact GoK.againJ m20' (by omega) ⟨_, ⟨by omega, hF17⟩, rfl, rfl⟩ (EnvD.eq rfl (EnvD.eq rfl (EnvD.eq rfl (EnvD.eq rfl (EnvD.eq rfl (EnvD.eq rfl (EnvD.eq rfl (EnvD.eq rfl (EnvD.eq rfl (EnvD.nil)))))))))) (TkD.nil _)
 obtain rfl : m20 = 0 := by omega
 refine GoC.exit rfl ?_
 cases hF17
 exact GoK.meet ⟨rfl, rfl, rfl⟩ (EnvD.eq rfl (EnvD.eq rfl (EnvD.eq rfl (EnvD.eq rfl (EnvD.eq rfl (EnvD.nil)))))) (TkD.nil _)
 rintro v h ⟨rfl, rfl, rfl⟩
 have H := HK16; clear HK16
 refine GoK.blk ?_
 refine GoK.code ?_
 refine GoC.region ?_
 refine GoO.pure (ps_add rfl rfl rfl hIk8) ?_
 refine GoO.pure (ps_move rfl rfl) ?_
 refine GoO.nil ?_
 obtain rfl := Option.some.inj H
 exact GoK.againJ m9' (by omega) ⟨_, ⟨by omega, hF6⟩, rfl, rfl⟩ (EnvD.eq rfl (EnvD.eq rfl (EnvD.eq rfl (EnvD.eq rfl (EnvD.eq rfl (EnvD.nil)))))) (TkD.nil _)
 obtain rfl : m9 = 0 := by omega
 refine GoC.exit rfl ?_
 cases hF6
 exact GoK.meet ⟨rfl, rfl, rfl⟩ (EnvD.nil) (TkD.nil _)
 rintro v h ⟨rfl, rfl, rfl⟩
 have H := HK5; clear HK5
 refine GoK.code ?_
 refine GoC.seq ?_
 refine GoC.region ?_
 refine GoO.pure (ps_assign rfl rfl) ?_
 refine GoO.pure (ps_assign rfl rfl) ?_
 refine GoO.pure (ps_assign rfl rfl) ?_
 refine GoO.nil ?_
 refine GoK.code ?_
 obtain rfl := Option.some.inj H
 exact GoC.retL (ds := [.v (.int .i64 0), .v (.int .i64 0), .v (.int .i64 5)]) Try.results26 (ResL.cons (ResD.tmp rfl) (ResL.cons (ResD.tmp rfl) (ResL.cons (ResD.tmp rfl) (ResL.nil)))) (Take.nil _) ⟨rfl, rfl⟩

def stable_refused_F (e_ : Int) : Option (Int) :=
 if e_ = 0 then
  some 9
 else
  some e_
def stable_refused_P (out : Int) (d : D) (H : List HL) : Prop := d = .v (.int .i64 out) ∧ H = []
theorem stable_refused_I (out : Int) : IndepP (stable_refused_P out) := IndepP.of (by rintro _ _ ⟨rfl, rfl⟩; exact ⟨inferInstance, inferInstance⟩)
set_option maxRecDepth 100000 in
set_option maxHeartbeats 4000000 in
theorem stable_refused_spec (e_ : Int) {out : Int} (H : stable_refused_F e_ = some out) : Does Try.prog 47 [.v (.int .i64 e_)] [] (stable_refused_P out) := by
 unfold stable_refused_F at H
 refine Does.intro Try.func47 rfl Try.ntmps47 rfl fun w0 I0 => ?_
 refine GoC.seq ?_
 refine GoC.region ?_
 refine GoO.pure (ps_assign rfl rfl) ?_
 refine GoO.nil ?_
 refine GoK.code ?_
 refine GoC.seq ?_
 refine GoC.seq ?_
 refine GoC.region ?_
 refine GoO.pure (ps_move rfl rfl) ?_
 refine GoO.pure (ps_eql rfl rfl rfl) ?_
 refine GoO.nil ?_
 refine GoK.code ?_
 refine GoC.condD rfl (fun h1 => ?_) (fun h1 => ?_)
 replace H := ite_t h1 H
 refine GoC.seq ?_
 refine GoC.region ?_
 refine GoO.pure (ps_assign rfl rfl) ?_
 refine GoO.nil ?_
 refine GoK.code ?_
 obtain rfl := Option.some.inj H
 exact GoC.retL (ds := [.v (.int .i64 9)]) Try.results47 (ResL.cons (ResD.tmp rfl) (ResL.nil)) (Take.nil _) ⟨rfl, rfl⟩
 replace H := ite_f h1 H
 refine GoC.skip ?_
 refine GoK.code ?_
 refine GoC.seq ?_
 refine GoC.region ?_
 refine GoO.pure (ps_move rfl rfl) ?_
 refine GoO.pure (ps_assign rfl rfl) ?_
 refine GoO.nil ?_
 refine GoK.code ?_
 obtain rfl := Option.some.inj H
 exact GoC.retL (ds := [.v (.int .i64 e_)]) Try.results47 (ResL.cons (ResD.tmp rfl) (ResL.nil)) (Take.nil _) ⟨rfl, rfl⟩

def stable_Both_B1 (a : (List (List Int))) (p : (List Int)) (q : (List Int)) : Nat → ((List Int) × (List Int)) → Option ((List Int) × (List Int)) := fun k30 (l23, l24) =>
 ck (k30 < p.length) <|
 ck (k30 < q.length) <|
 (slices_Index_int_F (a.getD k30 []) (p.getD k30 (0 : Int))).bind fun r34 =>
 (slices_Index_int_F (a.getD k30 []) (q.getD k30 (0 : Int))).bind fun r36 =>
 ck (0 ≤ (min r34 r36) ∧ (min r34 r36) < (((a.getD k30 []).length : Nat) : Int)) <|
 ck (0 ≤ (max r34 r36) ∧ (max r34 r36) < (((a.getD k30 []).length : Nat) : Int)) <|
 ck (k30 < l23.length) <|
 ck (k30 < l24.length) <|
 some ((l23.set k30 ((a.getD k30 []).getD ((min r34 r36).toNat) (0 : Int))), (l24.set k30 ((a.getD k30 []).getD ((max r34 r36).toNat) (0 : Int))))
def stable_Both_F (a : (List (List Int))) (b : (List (List Int))) (p : (List Int)) (q : (List Int)) : Option ((List Int) × (List Int) × Int) :=
 (stable_Pair_F a b p).bind fun (r1, r2, r3) =>
 if r3 ≠ 5 then
  (stable_refused_F r3).bind fun r6 =>
  some ([], [], r6)
 else
  (stable_Pair_F a b q).bind fun (r8, r9, r10) =>
  if r10 ≠ 5 then
   (stable_refused_F r10).bind fun r13 =>
   some ([], [], r13)
  else
   ck (0 ≤ ((a.length : Nat) : Int) ∧ ((a.length : Nat) : Int) ≤ 10000000000) <|
   (forN (stable_Both_B1 a p q) a.length 0 ((List.replicate (((a.length : Nat) : Int).toNat) (0 : Int)), (List.replicate (((a.length : Nat) : Int).toNat) (0 : Int)))).bind fun (l28, l29) =>
   some (l28, l29, 0)
def stable_Both_P (out : (List Int) × (List Int) × Int) (d : D) (H : List HL) : Prop := ∃ β1 β2 : BK, d = .tp 3 (nth [.own β1 1 0 out.1.length, .own β2 1 0 out.2.1.length, .v (.int .i64 out.2.2)]) ∧ H = [.one β1 3 1 (row out.1), .one β2 3 1 (row out.2.1)]
theorem stable_Both_I (out : (List Int) × (List Int) × Int) : IndepP (stable_Both_P out) := IndepP.of (by rintro _ _ ⟨β1, β2, rfl, rfl⟩; exact ⟨inferInstance, inferInstance⟩)
set_option maxRecDepth 100000 in
set_option maxHeartbeats 4000000 in
theorem stable_Both_spec (a : (List (List Int))) (b : (List (List Int))) (p : (List Int)) (q : (List Int)) {out : (List Int) × (List Int) × Int} (H : stable_Both_F a b p q = some out) : Does Try.prog 25 [slD a, slD b, slD p, slD q] [] (stable_Both_P out) := by
 unfold stable_Both_F at H
 refine Does.intro Try.func25 rfl Try.ntmps25 rfl fun w0 I0 => ?_
 refine GoC.seq ?_
 refine GoC.region ?_
 refine GoO.pure (ps_assign rfl rfl) ?_
 refine GoO.pure (ps_assign rfl rfl) ?_
 refine GoO.pure (ps_assign rfl rfl) ?_
 refine GoO.nil ?_
 refine GoK.code ?_
 refine GoC.seq ?_
 refine GoC.seq ?_
 refine GoC.region ?_
 refine GoO.pure (ps_move rfl rfl) ?_
 refine GoO.pure (ps_move rfl rfl) ?_
 refine GoO.pure (ps_move rfl rfl) ?_
 have hb := bind_l H; clear H
 obtain ⟨⟨r1, r2, r3⟩, e4, H⟩ := hb
 refine GoO.effC (ef_call rfl (Take.nil _) (Take.nil _) (stable_Pair_spec a b p e4) (LendL.cons (Lend.refl _ _) (LendL.cons (Lend.refl _ _) (LendL.cons (Lend.refl _ _) (LendL.nil)))) rfl (stable_Pair_I (r1, r2, r3))) (fun rr HH hp => ?_)
 obtain ⟨rfl, rfl⟩ := hp
 refine GoO.pure (ps_move rfl rfl) ?_
 refine GoO.pure (ps_extract rfl rfl rfl) ?_
 refine GoO.pure (ps_extract rfl rfl rfl) ?_
 refine GoO.pure (ps_extract rfl rfl rfl) ?_
 refine GoO.pure (ps_assign rfl rfl) ?_
 refine GoO.pure (ps_assign rfl rfl) ?_
 refine GoO.pure (ps_assign rfl rfl) ?_
 refine GoO.nil ?_
 refine GoK.code ?_
 refine GoC.seq ?_
 refine GoC.region ?_
 refine GoO.pure (ps_move rfl rfl) ?_
 refine GoO.pure (ps_neq rfl rfl rfl) ?_
 refine GoO.nil ?_
 refine GoK.code ?_
 refine GoC.condD rfl (fun h5 => ?_) (fun h5 => ?_)
 replace H := ite_t h5 H
 refine GoC.seq ?_
 refine GoC.region ?_
 refine GoO.pure (ps_move rfl rfl) ?_
 have hb := bind_l H; clear H
 obtain ⟨r6, e7, H⟩ := hb
 refine GoO.effC (ef_call rfl (Take.nil _) (Take.nil _) (stable_refused_spec r3 e7) (LendL.cons (Lend.refl _ _) (LendL.nil)) rfl (stable_refused_I (r6))) (fun rr HH hp => ?_)
 obtain ⟨rfl, rfl⟩ := hp
 refine GoO.pure (ps_assign rfl rfl) ?_
 refine GoO.pure (ps_assign rfl rfl) ?_
 refine GoO.pure (ps_assign rfl rfl) ?_
 refine GoO.nil ?_
 refine GoK.code ?_
 obtain rfl := Option.some.inj H
 refine GoC.le (le_row0 3 1 (row ([] : List Int)) rfl) ?_
 refine GoC.le (le_row0 3 1 (row ([] : List Int)) rfl) ?_
 exact GoC.retL (ds := [.own ⟨0, 0, 0⟩ 1 0 0, .own ⟨0, 0, 0⟩ 1 0 0, .v (.int .i64 r6)]) Try.results25 (ResL.cons (ResD.le (ResD.tmp rfl) (by exact DLe.nilOwn)) (ResL.cons (ResD.le (ResD.tmp rfl) (by exact DLe.nilOwn)) (ResL.cons (ResD.tmp rfl) (ResL.nil)))) (Take.cons _ _ _ _ _ Rem.p1 (Take.cons _ _ _ _ _ Rem.p0 (Take.nil _))) ⟨⟨0, 0, 0⟩, ⟨0, 0, 0⟩, rfl, rfl⟩
 replace H := ite_f h5 H
 refine GoC.skip ?_
 refine GoK.code ?_
 refine GoC.seq ?_
 refine GoC.seq ?_
 refine GoC.region ?_
 refine GoO.pure (ps_move rfl rfl) ?_
 refine GoO.pure (ps_move rfl rfl) ?_
 refine GoO.pure (ps_move rfl rfl) ?_
 have hb := bind_l H; clear H
 obtain ⟨⟨r8, r9, r10⟩, e11, H⟩ := hb
 refine GoO.effC (ef_call rfl (Take.nil _) (Take.nil _) (stable_Pair_spec a b q e11) (LendL.cons (Lend.refl _ _) (LendL.cons (Lend.refl _ _) (LendL.cons (Lend.refl _ _) (LendL.nil)))) rfl (stable_Pair_I (r8, r9, r10))) (fun rr HH hp => ?_)
 obtain ⟨rfl, rfl⟩ := hp
 refine GoO.pure (ps_move rfl rfl) ?_
 refine GoO.pure (ps_extract rfl rfl rfl) ?_
 refine GoO.pure (ps_extract rfl rfl rfl) ?_
 refine GoO.pure (ps_extract rfl rfl rfl) ?_
 refine GoO.pure (ps_assign rfl rfl) ?_
 refine GoO.pure (ps_assign rfl rfl) ?_
 refine GoO.pure (ps_assign rfl rfl) ?_
 refine GoO.nil ?_
 refine GoK.code ?_
 refine GoC.seq ?_
 refine GoC.region ?_
 refine GoO.pure (ps_move rfl rfl) ?_
 refine GoO.pure (ps_neq rfl rfl rfl) ?_
 refine GoO.nil ?_
 refine GoK.code ?_
 refine GoC.condD rfl (fun h12 => ?_) (fun h12 => ?_)
 replace H := ite_t h12 H
 refine GoC.seq ?_
 refine GoC.region ?_
 refine GoO.pure (ps_move rfl rfl) ?_
 have hb := bind_l H; clear H
 obtain ⟨r13, e14, H⟩ := hb
 refine GoO.effC (ef_call rfl (Take.nil _) (Take.nil _) (stable_refused_spec r10 e14) (LendL.cons (Lend.refl _ _) (LendL.nil)) rfl (stable_refused_I (r13))) (fun rr HH hp => ?_)
 obtain ⟨rfl, rfl⟩ := hp
 refine GoO.pure (ps_assign rfl rfl) ?_
 refine GoO.pure (ps_assign rfl rfl) ?_
 refine GoO.pure (ps_assign rfl rfl) ?_
 refine GoO.nil ?_
 refine GoK.code ?_
 obtain rfl := Option.some.inj H
 refine GoC.le (le_row0 3 1 (row ([] : List Int)) rfl) ?_
 refine GoC.le (le_row0 3 1 (row ([] : List Int)) rfl) ?_
 exact GoC.retL (ds := [.own ⟨0, 0, 0⟩ 1 0 0, .own ⟨0, 0, 0⟩ 1 0 0, .v (.int .i64 r13)]) Try.results25 (ResL.cons (ResD.le (ResD.tmp rfl) (by exact DLe.nilOwn)) (ResL.cons (ResD.le (ResD.tmp rfl) (by exact DLe.nilOwn)) (ResL.cons (ResD.tmp rfl) (ResL.nil)))) (Take.cons _ _ _ _ _ Rem.p1 (Take.cons _ _ _ _ _ Rem.p0 (Take.nil _))) ⟨⟨0, 0, 0⟩, ⟨0, 0, 0⟩, rfl, rfl⟩
 replace H := ite_f h12 H
 refine GoC.skip ?_
 refine GoK.code ?_
 refine GoC.seq ?_
 refine GoC.drawA (.q 0 (.q 1 (.q 3 (.q 4 (.two 2 5 (.q 6 (.one 5 (.q 7 (.done)))) (.one 2 (.q 6 (.q 7 (.done))))))))) follows (by kernel_rfl) ?_
 refine GoP.qN rfl (ps_move rfl rfl) ?_
 refine GoP.qN rfl (ps_len rfl (by constructor) rfl) ?_
 refine GoP.qN rfl (ps_move rfl rfl) ?_
 refine GoP.qN rfl (ps_len rfl (by constructor) rfl) ?_
 have c16 := ck_l H; replace H := ck_r H
 apply GoP.fork2
 exact rfl
 exact rfl
 exact trivial
 exact trivial
 exact ef_makeZ rfl rfl c16 rfl rfl rfl
 exact ef_makeZ rfl rfl c16 rfl rfl rfl
 exact (Take.nil _)
 exact (Take.nil _)
 intro hQ
 rintro _ ⟨β18, rfl⟩
 refine GoP.leD (Le.reH At.p0 (HLe.zeros (α := Int) ⟨trivial, DLe.refl _⟩)) ?_
 refine GoP.qN rfl (ps_assign rfl rfl) ?_
 refine GoP.oneB rfl trivial (ef_makeZ rfl rfl c16 rfl rfl rfl) (Take.nil _) (fun β20 => ?_)
 refine GoP.leD (Le.reH At.p0 (HLe.zeros (α := Int) ⟨trivial, DLe.refl _⟩)) ?_
 refine GoP.qN rfl (ps_assign rfl rfl) ?_
 exact GoP.done (hQ β18 β20)
 intro hQ
 rintro _ ⟨β19, rfl⟩
 refine GoP.leD (Le.reH At.p0 (HLe.zeros (α := Int) ⟨trivial, DLe.refl _⟩)) ?_
 refine GoP.oneB rfl trivial (ef_makeZ rfl rfl c16 rfl rfl rfl) (Take.nil _) (fun β21 => ?_)
 refine GoP.leD (Le.reH At.p0 (HLe.zeros (α := Int) ⟨trivial, DLe.refl _⟩)) ?_
 refine GoP.qN rfl (ps_assign rfl rfl) ?_
 refine GoP.qN rfl (ps_assign rfl rfl) ?_
 refine GoP.done (GoK.le ?_ (hQ β21 β19))
 refine Le.ofDW ?_ (TkD.cons _ _ _ _ _ Rem.p1 (HLe.refl _) (TkD.cons _ _ _ _ _ Rem.p0 (HLe.refl _) (TkD.nil _)))
 repeat (first | exact EnvLeW.nil | refine EnvLeW.cons rfl ?_ | refine EnvLeW.skip rfl ?_)
 intro β18 β20
 refine GoK.code ?_
 refine GoC.seq ?_
 refine GoC.seq ?_
 refine GoC.region ?_
 refine GoO.pure (ps_move rfl rfl) ?_
 refine GoO.pure (ps_len rfl (by constructor) rfl) ?_
 refine GoO.lenLe (n := a.length) (x := .tmp 53) rfl (by constructor) sl_lenLe (fun ml22 => ?_)
 refine GoO.pure (ps_move rfl rfl) ?_
 refine GoO.nil ?_
 refine GoK.code ?_
 have hb := bind_l H; clear H
 obtain ⟨⟨l28, l29⟩, hl42, HK25⟩ := hb
 refine GoC.blockJ [] [] (fun v h => v = [(17, .own β18 1 0 l28.length), (18, .own β20 1 0 l29.length)] ∧ h = [.one β18 3 1 (row l28), .one β20 3 1 (row l29)]) ?_ ?_
 refine GoC.loopJ [(2, _), (3, _), (53, _), (54, _)] [] (fun m v h => ∃ (k30 : Nat) (l23 : (List Int)) (l24 : (List Int)), (k30 + m = a.length ∧ forN (stable_Both_B1 a p q) m k30 (l23, l24) = some (l28, l29)) ∧ v = [(55, .v (.int .i64 ((k30 : Nat) : Int))), (17, .own β18 1 0 l23.length), (18, .own β20 1 0 l24.length)] ∧ h = [.one β18 3 1 (row l23), .one β20 3 1 (row l24)]) a.length ⟨_, _, _, ⟨by omega, hl42⟩, rfl, rfl⟩ (EnvD.eq rfl (EnvD.cons rfl (DLe.len (by first | rfl | omega | (simp only [row_len, List.length_replicate] <;> first | rfl | omega))) (EnvD.cons rfl (DLe.len (by first | rfl | omega | (simp only [row_len, List.length_replicate] <;> first | rfl | omega))) (EnvD.eq rfl (EnvD.eq rfl (EnvD.eq rfl (EnvD.eq rfl (EnvD.nil)))))))) (TkD.cons _ _ _ _ _ Rem.p1 (HLe.refl _) (TkD.cons _ _ _ _ _ Rem.p0 (HLe.refl _) (TkD.nil _))) ?_
 rintro m31 v h ⟨k30, l23, l24, ⟨hkk30, hF26⟩, rfl, rfl⟩
 refine GoC.seq ?_
 refine GoC.region ?_
 refine GoO.pure (ps_lss rfl rfl rfl) ?_
 refine GoO.nil ?_
 refine GoK.code ?_
 refine GoC.seq ?_
 refine GoC.condD rfl (fun (hk30 : (k30 : Int) < ((a.length : Nat) : Int)) => ?_) (fun (hk30 : ¬ (k30 : Int) < ((a.length : Nat) : Int)) => ?_)
 obtain ⟨m31', rfl⟩ : ∃ x, m31 = x + 1 := ⟨m31 - 1, by omega⟩
 have hb := bind_l hF26; clear hF26
 obtain ⟨qrm31, H, hF26⟩ := hb
 have hnk30 : k30 < a.length := by omega
 have hIk30 : InI ((k30 : Int) + 1) := inI_len hk30 ml22
 refine GoC.skip ?_
 refine GoK.code ?_
 refine GoC.seq ?_
 refine GoC.block ?_
 refine GoC.seq ?_
 refine GoC.region ?_
 refine GoO.pure (ps_move rfl rfl) ?_
 refine GoO.pure (ps_indexAddrRN rfl rfl hnk30 rfl) ?_
 refine GoO.pure (ps_loadR rfl hnk30 rfl rfl) ?_
 refine GoO.pure (ps_assign rfl rfl) ?_
 refine GoO.pure (ps_assign rfl rfl) ?_
 refine GoO.nil ?_
 refine GoK.code ?_
 refine GoC.seq ?_
 refine GoC.drawA (.q 0 (.q 1 (.q 2 (.q 3 (.q 4 (.q 6 (.q 7 (.q 8 (.q 9 (.q 10 (.one 5 (.one 11 (.q 12 (.q 13 (.done))))))))))))))) follows (by kernel_rfl) ?_
 refine GoP.qN rfl (ps_move rfl rfl) ?_
 refine GoP.qN rfl (ps_move rfl rfl) ?_
 refine GoP.qN rfl (ps_move rfl rfl) ?_
 have c32 := ck_l H; replace H := ck_r H
 refine GoP.qN rfl (ps_indexAddrRN rfl rfl c32 rfl) ?_
 refine GoP.qN rfl (ps_loadR rfl c32 rfl rfl) ?_
 refine GoP.qN rfl (ps_move rfl rfl) ?_
 refine GoP.qN rfl (ps_move rfl rfl) ?_
 refine GoP.qN rfl (ps_move rfl rfl) ?_
 have c33 := ck_l H; replace H := ck_r H
 refine GoP.qN rfl (ps_indexAddrRN rfl rfl c33 rfl) ?_
 refine GoP.qN rfl (ps_loadR rfl c33 rfl rfl) ?_
 have hb := bind_l H; clear H
 obtain ⟨r34, e35, H⟩ := hb
 refine GoP.oneC rfl trivial (ef_call rfl (Take.nil _) (Take.nil _) (slices_Index_int_spec (a.getD k30 []) (p.getD k30 (0 : Int)) e35) (LendL.cons (Lend.refl _ _) (LendL.cons (Lend.refl _ _) (LendL.nil))) rfl (slices_Index_int_I (r34))) (Take.cons _ _ _ _ _ Rem.p0 (Take.cons _ _ _ _ _ Rem.p0 (Take.nil _))) (fun rr HH hp => ?_)
 obtain ⟨rfl, rfl⟩ := hp
 have hb := bind_l H; clear H
 obtain ⟨r36, e37, H⟩ := hb
 refine GoP.oneC rfl trivial (ef_call rfl (Take.nil _) (Take.nil _) (slices_Index_int_spec (a.getD k30 []) (q.getD k30 (0 : Int)) e37) (LendL.cons (Lend.refl _ _) (LendL.cons (Lend.refl _ _) (LendL.nil))) rfl (slices_Index_int_I (r36))) (Take.cons _ _ _ _ _ Rem.p0 (Take.cons _ _ _ _ _ Rem.p0 (Take.nil _))) (fun rr HH hp => ?_)
 obtain ⟨rfl, rfl⟩ := hp
 refine GoP.qN rfl (ps_assign rfl rfl) ?_
 refine GoP.qN rfl (ps_assign rfl rfl) ?_
 refine GoP.done ?_
 refine GoK.code ?_
 refine GoC.drawP (.q 0 (.q 1 (.q 2 (.q 3 (.q 4 (.q 5 (.q 6 (.q 7 (.q 8 (.q 9 (.q 10 (.q 11 (.q 12 (.q 13 (.q 14 (.q 15 (.q 16 (.one 17 (.q 18 (.one 19 (.done))))))))))))))))))))) [] follows (by kernel_rfl) (Take.nil _) ?_
 refine GoP.qN rfl (ps_move rfl rfl) ?_
 refine GoP.qN rfl (ps_move rfl rfl) ?_
 refine GoP.qN rfl (ps_move rfl rfl) ?_
 refine GoP.qN rfl (ps_move rfl rfl) ?_
 refine GoP.qN rfl (ps_move rfl rfl) ?_
 refine GoP.qN rfl (ps_move rfl rfl) ?_
 refine GoP.qN rfl (ps_move rfl rfl) ?_
 refine GoP.qN rfl (ps_min rfl rfl rfl) ?_
 have c38 := ck_l H; replace H := ck_r H
 refine GoP.qN rfl (ps_indexAddrR rfl rfl c38 rfl) ?_
 refine GoP.qN rfl (ps_loadR rfl (idx_lt c38) rfl rfl) ?_
 refine GoP.qN rfl (ps_move rfl rfl) ?_
 refine GoP.qN rfl (ps_move rfl rfl) ?_
 refine GoP.qN rfl (ps_move rfl rfl) ?_
 refine GoP.qN rfl (ps_max rfl rfl rfl) ?_
 have c39 := ck_l H; replace H := ck_r H
 refine GoP.qN rfl (ps_indexAddrR rfl rfl c39 rfl) ?_
 refine GoP.qN rfl (ps_loadR rfl (idx_lt c39) rfl rfl) ?_
 have c40 := ck_l H; replace H := ck_r H
 refine GoP.qN rfl (ps_indexAddr0N rfl rfl c40 rfl) ?_
 refine GoP.one1 rfl trivial (ef_store rfl rfl rfl At.p0 (upd_row1 (v := ((a.getD k30 []).getD ((min r34 r36).toNat) (0 : Int))) rfl) c40 rfl) (Take.cons _ _ _ _ _ Rem.p0 (Take.nil _)) ?_
 have c41 := ck_l H; replace H := ck_r H
 refine GoP.qN rfl (ps_indexAddr0N rfl rfl c41 rfl) ?_
 refine GoP.one1 rfl trivial (ef_store rfl rfl rfl At.p1 (upd_row1 (v := ((a.getD k30 []).getD ((max r34 r36).toNat) (0 : Int))) rfl) c41 rfl) (Take.cons _ _ _ _ _ Rem.p1 (Take.nil _)) ?_
 refine GoP.done ?_
 refine GoK.blk ?_
 refine GoK.code ?_
 refine GoC.region ?_
 refine GoO.pure (ps_add rfl rfl rfl hIk30) ?_
 refine GoO.pure (ps_move rfl rfl) ?_
 refine GoO.nil ?_
 obtain rfl := Option.some.inj H
 exact GoK.againJ m31' (by omega) ⟨_, _, _, ⟨by omega, hF26⟩, rfl, rfl⟩ (EnvD.eq rfl (EnvD.cons rfl (DLe.len (by first | rfl | omega | (simp only [row_len, List.length_set, List.length_cons, List.length_nil, List.length_nil] <;> first | rfl | omega))) (EnvD.cons rfl (DLe.len (by first | rfl | omega | (simp only [row_len, List.length_set, List.length_cons, List.length_nil, List.length_nil] <;> first | rfl | omega))) (EnvD.eq rfl (EnvD.eq rfl (EnvD.eq rfl (EnvD.eq rfl (EnvD.nil)))))))) (TkD.cons _ _ _ _ _ Rem.p0 (HLe.refl _) (TkD.cons _ _ _ _ _ Rem.p0 (HLe.refl _) (TkD.nil _)))
 obtain rfl : m31 = 0 := by omega
 refine GoC.exit rfl ?_
 cases hF26
 exact GoK.meet ⟨rfl, rfl⟩ (EnvD.cons rfl (DLe.len (by first | rfl | omega | (simp only [row_len] <;> first | rfl | omega))) (EnvD.cons rfl (DLe.len (by first | rfl | omega | (simp only [row_len] <;> first | rfl | omega))) (EnvD.nil))) (TkD.cons _ _ _ _ _ Rem.p0 (HLe.refl _) (TkD.cons _ _ _ _ _ Rem.p0 (HLe.refl _) (TkD.nil _)))
 rintro v h ⟨rfl, rfl⟩
 have H := HK25; clear HK25
 refine GoK.code ?_
 refine GoC.seq ?_
 refine GoC.region ?_
 refine GoO.pure (ps_move rfl rfl) ?_
 refine GoO.pure (ps_move rfl rfl) ?_
 refine GoO.pure (ps_assign rfl rfl) ?_
 refine GoO.pure (ps_assign rfl rfl) ?_
 refine GoO.pure (ps_assign rfl rfl) ?_
 refine GoO.nil ?_
 refine GoK.code ?_
 obtain rfl := Option.some.inj H
 exact GoC.retL (ds := [.own β18 1 0 l28.length, .own β20 1 0 l29.length, .v (.int .i64 0)]) Try.results25 (ResL.cons (ResD.tmp rfl) (ResL.cons (ResD.tmp rfl) (ResL.cons (ResD.tmp rfl) (ResL.nil)))) (Take.cons _ _ _ _ _ Rem.p0 (Take.cons _ _ _ _ _ Rem.p0 (Take.nil _))) ⟨β18, β20, rfl, rfl⟩

def stable_Best_B2 (a : (List (List Int))) (b : (List (List Int))) : ((List Int) × (List Int) × Int) → Option (Ct ((List Int) × (List Int) × Int) ((List Int) × (List Int))) := fun (l26, l27, x28) =>
 if 0 ≤ x28 then
  ck (0 ≤ x28 ∧ x28 < ((a.length : Nat) : Int)) <|
  ck (0 ≤ x28 ∧ x28 < ((l27.length : Nat) : Int)) <|
  ck (0 ≤ (l27.getD x28.toNat (0 : Int)) ∧ (l27.getD x28.toNat (0 : Int)) < (((a.getD x28.toNat []).length : Nat) : Int)) <|
  ck (InI ((l27.getD x28.toNat (0 : Int)) + 1)) <|
  ck (0 ≤ ((a.getD x28.toNat []).getD ((l27.getD x28.toNat (0 : Int)).toNat) (0 : Int)) ∧ ((a.getD x28.toNat []).getD ((l27.getD x28.toNat (0 : Int)).toNat) (0 : Int)) < ((l26.length : Nat) : Int)) <|
  if (l26.getD (((a.getD x28.toNat []).getD ((l27.getD x28.toNat (0 : Int)).toNat) (0 : Int)).toNat) (0 : Int)) < 0 then
   some (.go ((l26.set (((a.getD x28.toNat []).getD ((l27.getD x28.toNat (0 : Int)).toNat) (0 : Int)).toNat) x28), (l27.set x28.toNat ((l27.getD x28.toNat (0 : Int)) + 1)), (l26.getD (((a.getD x28.toNat []).getD ((l27.getD x28.toNat (0 : Int)).toNat) (0 : Int)).toNat) (0 : Int))))
  else
   ck (0 ≤ ((a.getD x28.toNat []).getD ((l27.getD x28.toNat (0 : Int)).toNat) (0 : Int)) ∧ ((a.getD x28.toNat []).getD ((l27.getD x28.toNat (0 : Int)).toNat) (0 : Int)) < ((b.length : Nat) : Int)) <|
   (slices_Index_int_F (b.getD (((a.getD x28.toNat []).getD ((l27.getD x28.toNat (0 : Int)).toNat) (0 : Int)).toNat) []) x28).bind fun r44 =>
   (slices_Index_int_F (b.getD (((a.getD x28.toNat []).getD ((l27.getD x28.toNat (0 : Int)).toNat) (0 : Int)).toNat) []) (l26.getD (((a.getD x28.toNat []).getD ((l27.getD x28.toNat (0 : Int)).toNat) (0 : Int)).toNat) (0 : Int))).bind fun r46 =>
   if r44 < r46 then
    some (.go ((l26.set (((a.getD x28.toNat []).getD ((l27.getD x28.toNat (0 : Int)).toNat) (0 : Int)).toNat) x28), (l27.set x28.toNat ((l27.getD x28.toNat (0 : Int)) + 1)), (l26.getD (((a.getD x28.toNat []).getD ((l27.getD x28.toNat (0 : Int)).toNat) (0 : Int)).toNat) (0 : Int))))
   else
    some (.go (l26, (l27.set x28.toNat ((l27.getD x28.toNat (0 : Int)) + 1)), x28))
 else
  some (.brk (l26, l27, x28))
def stable_Best_B1 (a : (List (List Int))) (b : (List (List Int))) : Nat → ((List Int) × (List Int)) → Option ((List Int) × (List Int)) := fun k24 (l17, l18) =>
 (loopC (stable_Best_B2 a b) 1000000 (l17, l18, ((k24 : Nat) : Int))).bind fun q => match q with
 | .go (l32, l33, x34) =>
  some (l32, l33)
 | .ret x => some x
def stable_Best_B3 (l22 : (List Int)) : Nat → (List Int) → Option ((List Int)) := fun k58 l53 =>
 ck (0 ≤ (l22.getD k58 (0 : Int)) ∧ (l22.getD k58 (0 : Int)) < ((l53.length : Nat) : Int)) <|
 some (l53.set ((l22.getD k58 (0 : Int)).toNat) ((k58 : Nat) : Int))
def stable_Best_F (a : (List (List Int))) (b : (List (List Int))) : Option ((List Int) × Int) :=
 (stable_Check_F a b).bind fun r1 =>
 if r1 ≠ 0 then
  some ([], r1)
 else
  (slices_Repeat_int_F ([(-1)] : List Int) ((b.length : Nat) : Int)).bind fun r5 =>
  ck (0 ≤ ((a.length : Nat) : Int) ∧ ((a.length : Nat) : Int) ≤ 10000000000) <|
  (forN (stable_Best_B1 a b) a.length 0 (r5, (List.replicate (((a.length : Nat) : Int).toNat) (0 : Int)))).bind fun (l22, l23) =>
  (forN (stable_Best_B3 l22) l22.length 0 (List.replicate (((a.length : Nat) : Int).toNat) (0 : Int))).bind fun l57 =>
  some (l57, 0)
def stable_Best_P (out : (List Int) × Int) (d : D) (H : List HL) : Prop := ∃ β1 : BK, d = .tp 2 (nth [.own β1 1 0 out.1.length, .v (.int .i64 out.2)]) ∧ H = [.one β1 3 1 (row out.1)]
theorem stable_Best_I (out : (List Int) × Int) : IndepP (stable_Best_P out) := IndepP.of (by rintro _ _ ⟨β1, rfl, rfl⟩; exact ⟨inferInstance, inferInstance⟩)
set_option maxRecDepth 100000 in
set_option maxHeartbeats 4000000 in
theorem stable_Best_spec (a : (List (List Int))) (b : (List (List Int))) {out : (List Int) × Int} (H : stable_Best_F a b = some out) : Does Try.prog 28 [slD a, slD b] [] (stable_Best_P out) := by
 unfold stable_Best_F at H
 refine Does.intro Try.func28 rfl Try.ntmps28 rfl fun w0 I0 => ?_
 refine GoC.seq ?_
 refine GoC.region ?_
 refine GoO.pure (ps_assign rfl rfl) ?_
 refine GoO.pure (ps_assign rfl rfl) ?_
 refine GoO.nil ?_
 refine GoK.code ?_
 refine GoC.seq ?_
 refine GoC.seq ?_
 refine GoC.region ?_
 refine GoO.pure (ps_move rfl rfl) ?_
 refine GoO.pure (ps_move rfl rfl) ?_
 have hb := bind_l H; clear H
 obtain ⟨r1, e2, H⟩ := hb
 refine GoO.effC (ef_call rfl (Take.nil _) (Take.nil _) (stable_Check_spec a b e2) (LendL.cons (Lend.refl _ _) (LendL.cons (Lend.refl _ _) (LendL.nil))) rfl (stable_Check_I (r1))) (fun rr HH hp => ?_)
 obtain ⟨rfl, rfl⟩ := hp
 refine GoO.pure (ps_assign rfl rfl) ?_
 refine GoO.nil ?_
 refine GoK.code ?_
 refine GoC.seq ?_
 refine GoC.region ?_
 refine GoO.pure (ps_move rfl rfl) ?_
 refine GoO.pure (ps_neq rfl rfl rfl) ?_
 refine GoO.nil ?_
 refine GoK.code ?_
 refine GoC.condD rfl (fun h3 => ?_) (fun h3 => ?_)
 replace H := ite_t h3 H
 refine GoC.seq ?_
 refine GoC.region ?_
 refine GoO.pure (ps_move rfl rfl) ?_
 refine GoO.pure (ps_assign rfl rfl) ?_
 refine GoO.pure (ps_assign rfl rfl) ?_
 refine GoO.nil ?_
 refine GoK.code ?_
 obtain rfl := Option.some.inj H
 refine GoC.le (le_row0 3 1 (row ([] : List Int)) rfl) ?_
 exact GoC.retL (ds := [.own ⟨0, 0, 0⟩ 1 0 0, .v (.int .i64 r1)]) Try.results28 (ResL.cons (ResD.le (ResD.tmp rfl) (by exact DLe.nilOwn)) (ResL.cons (ResD.tmp rfl) (ResL.nil))) (Take.cons _ _ _ _ _ Rem.p0 (Take.nil _)) ⟨⟨0, 0, 0⟩, rfl, rfl⟩
 replace H := ite_f h3 H
 refine GoC.skip ?_
 refine GoK.code ?_
 refine GoC.seq ?_
 refine GoC.drawA (.q 1 (.q 2 (.q 4 (.q 5 (.two 0 6 (.two 3 6 (.q 7 (.one 6 (.q 8 (.done)))) (.one 3 (.q 7 (.q 8 (.done))))) (.one 0 (.one 3 (.q 7 (.q 8 (.done)))))))))) follows (by kernel_rfl) ?_
 refine GoP.qN rfl (ps_move rfl rfl) ?_
 refine GoP.qN rfl (ps_len rfl (by constructor) rfl) ?_
 refine GoP.qN rfl (ps_move rfl rfl) ?_
 refine GoP.qN rfl (ps_len rfl (by constructor) rfl) ?_
 have hb := bind_l H; clear H
 obtain ⟨r5, e7, H⟩ := hb
 have c9 := ck_l H; replace H := ck_r H
 apply GoP.fork3
 exact rfl
 exact rfl
 exact trivial
 exact trivial
 exact ef_buildSlice (row ([(-1)] : List Int)) rfl (Parts.cons _ _ _ _ _ _ _ _ ⟨rfl, rfl⟩ (Part.one _ rfl rfl) rfl rfl (Parts.nil _)) rfl rfl rfl rfl
 exact ef_makeZ rfl rfl c9 rfl rfl rfl
 exact (Take.nil _)
 exact (Take.nil _)
 intro hQ
 rintro _ ⟨β10, rfl⟩
 apply GoP.fork2
 exact rfl
 exact rfl
 exact trivial
 exact trivial
 exact ef_call rfl (Take.nil _) (Take.cons _ _ _ _ _ Rem.p0 (Take.nil _)) (slices_Repeat_int_spec ([(-1)] : List Int) ((b.length : Nat) : Int) e7) (LendL.cons (Lend.all' At.p0 (by first | rfl | omega | (simp only [subl_length, cpl_length, List.length_set, List.length_append, List.length_cons, List.length_nil, List.length_replicate, row_len] <;> first | rfl | omega)) rfl) (LendL.cons (Lend.refl _ _) (LendL.nil))) rfl (slices_Repeat_int_I (r5))
 exact ef_makeZ rfl rfl c9 rfl rfl rfl
 exact (Take.nil _)
 exact (Take.nil _)
 intro hQ
 rintro _ ⟨_, _, hp, rfl⟩
 obtain ⟨β6, rfl, rfl⟩ := hp
 refine GoP.qN rfl (ps_assign rfl rfl) ?_
 refine GoP.oneB rfl trivial (ef_makeZ rfl rfl c9 rfl rfl rfl) (Take.nil _) (fun β14 => ?_)
 refine GoP.leD (Le.reH At.p0 (HLe.zeros (α := Int) ⟨trivial, DLe.refl _⟩)) ?_
 refine GoP.qN rfl (ps_assign rfl rfl) ?_
 exact GoP.done (hQ β6 β14)
 intro hQ
 rintro _ ⟨β13, rfl⟩
 refine GoP.leD (Le.reH At.p0 (HLe.zeros (α := Int) ⟨trivial, DLe.refl _⟩)) ?_
 refine GoP.oneC rfl trivial (ef_call rfl (Take.nil _) (Take.cons _ _ _ _ _ Rem.p1 (Take.nil _)) (slices_Repeat_int_spec ([(-1)] : List Int) ((b.length : Nat) : Int) e7) (LendL.cons (Lend.all' At.p0 (by first | rfl | omega | (simp only [subl_length, cpl_length, List.length_set, List.length_append, List.length_cons, List.length_nil, List.length_replicate, row_len] <;> first | rfl | omega)) rfl) (LendL.cons (Lend.refl _ _) (LendL.nil))) rfl (slices_Repeat_int_I (r5))) (Take.nil _) (fun rr HH hp => ?_)
 obtain ⟨β6, rfl, rfl⟩ := hp
 refine GoP.qN rfl (ps_assign rfl rfl) ?_
 refine GoP.qN rfl (ps_assign rfl rfl) ?_
 refine GoP.done (GoK.le ?_ (hQ β6 β13))
 refine Le.ofDW ?_ (TkD.cons _ _ _ _ _ Rem.p1 (HLe.refl _) (TkD.cons _ _ _ _ _ Rem.p0 (HLe.refl _) (TkD.cons _ _ _ _ _ Rem.p0 (HLe.refl _) (TkD.nil _))))
 repeat (first | exact EnvLeW.nil | refine EnvLeW.cons rfl ?_ | refine EnvLeW.skip rfl ?_)
 intro β6 β14
 exact (hQ β10 β6 β14)
 intro hQ
 rintro _ ⟨β11, rfl⟩
 refine GoP.leD (Le.reH At.p0 (HLe.zeros (α := Int) ⟨trivial, DLe.refl _⟩)) ?_
 refine GoP.oneB rfl trivial (ef_buildSlice (row ([(-1)] : List Int)) rfl (Parts.cons _ _ _ _ _ _ _ _ ⟨rfl, rfl⟩ (Part.one _ rfl rfl) rfl rfl (Parts.nil _)) rfl rfl rfl rfl) (Take.nil _) (fun β15 => ?_)
 refine GoP.oneC rfl trivial (ef_call rfl (Take.nil _) (Take.cons _ _ _ _ _ Rem.p0 (Take.nil _)) (slices_Repeat_int_spec ([(-1)] : List Int) ((b.length : Nat) : Int) e7) (LendL.cons (Lend.all' At.p0 (by first | rfl | omega | (simp only [subl_length, cpl_length, List.length_set, List.length_append, List.length_cons, List.length_nil, List.length_replicate, row_len] <;> first | rfl | omega)) rfl) (LendL.cons (Lend.refl _ _) (LendL.nil))) rfl (slices_Repeat_int_I (r5))) (Take.nil _) (fun rr HH hp => ?_)
 obtain ⟨β6, rfl, rfl⟩ := hp
 refine GoP.qN rfl (ps_assign rfl rfl) ?_
 refine GoP.qN rfl (ps_assign rfl rfl) ?_
 refine GoP.done (GoK.le ?_ (hQ β15 β6 β11))
 refine Le.ofDW ?_ (TkD.cons _ _ _ _ _ Rem.p2 (HLe.refl _) (TkD.cons _ _ _ _ _ Rem.p0 (HLe.refl _) (TkD.cons _ _ _ _ _ Rem.p0 (HLe.refl _) (TkD.nil _))))
 repeat (first | exact EnvLeW.nil | refine EnvLeW.cons rfl ?_ | refine EnvLeW.skip rfl ?_)
 intro β10 β6 β14
 refine GoK.code ?_
 refine GoC.seq ?_
 refine GoC.seq ?_
 refine GoC.region ?_
 refine GoO.pure (ps_move rfl rfl) ?_
 refine GoO.pure (ps_len rfl (by constructor) rfl) ?_
 refine GoO.lenLe (n := a.length) (x := .tmp 28) rfl (by constructor) sl_lenLe (fun ml16 => ?_)
 refine GoO.pure (ps_move rfl rfl) ?_
 refine GoO.nil ?_
 refine GoK.code ?_
 have hb := bind_l H; clear H
 obtain ⟨⟨l22, l23⟩, hl50, HK19⟩ := hb
 refine GoC.blockJ [(0, slD a)] [.one β10 3 1 (row ([(-1)] : List Int))] (fun v h => v = [(7, .own β6 1 0 l22.length)] ∧ h = [.one β6 3 1 (row l22), .one β14 3 1 (row l23)]) ?_ ?_
 refine GoC.loopJ [(0, _), (1, _), (29, _)] [.one β10 3 1 (row ([(-1)] : List Int))] (fun m v h => ∃ (k24 : Nat) (l17 : (List Int)) (l18 : (List Int)), (k24 + m = a.length ∧ forN (stable_Best_B1 a b) m k24 (l17, l18) = some (l22, l23)) ∧ v = [(30, .v (.int .i64 ((k24 : Nat) : Int))), (7, .own β6 1 0 l17.length), (8, .own β14 1 0 l18.length)] ∧ h = [.one β6 3 1 (row l17), .one β14 3 1 (row l18)]) a.length ⟨_, _, _, ⟨by omega, hl50⟩, rfl, rfl⟩ (EnvD.eq rfl (EnvD.cons rfl (DLe.len (by first | rfl | omega | (simp only [row_len] <;> first | rfl | omega))) (EnvD.cons rfl (DLe.len (by first | rfl | omega | (simp only [row_len, List.length_replicate] <;> first | rfl | omega))) (EnvD.eq rfl (EnvD.eq rfl (EnvD.eq rfl (EnvD.nil))))))) (TkD.cons _ _ _ _ _ Rem.p1 (HLe.refl _) (TkD.cons _ _ _ _ _ Rem.p0 (HLe.refl _) (TkD.cons _ _ _ _ _ Rem.p0 (HLe.refl _) (TkD.nil _)))) ?_
 rintro m25 v h ⟨k24, l17, l18, ⟨hkk24, hF20⟩, rfl, rfl⟩
 refine GoC.seq ?_
 refine GoC.region ?_
 refine GoO.pure (ps_lss rfl rfl rfl) ?_
 refine GoO.nil ?_
 refine GoK.code ?_
 refine GoC.seq ?_
 refine GoC.condD rfl (fun (hk24 : (k24 : Int) < ((a.length : Nat) : Int)) => ?_) (fun (hk24 : ¬ (k24 : Int) < ((a.length : Nat) : Int)) => ?_)
 obtain ⟨m25', rfl⟩ : ∃ x, m25 = x + 1 := ⟨m25 - 1, by omega⟩
 have hb := bind_l hF20; clear hF20
 obtain ⟨qrm25, H, hF20⟩ := hb
 have hnk24 : k24 < a.length := by omega
 have hIk24 : InI ((k24 : Int) + 1) := inI_len hk24 ml16
 refine GoC.skip ?_
 refine GoK.code ?_
 refine GoC.seq ?_
 refine GoC.block ?_
 refine GoC.seq ?_
 refine GoC.region ?_
 refine GoO.pure (ps_move rfl rfl) ?_
 refine GoO.pure (ps_assign rfl rfl) ?_
 refine GoO.nil ?_
 refine GoK.code ?_
 refine GoC.seq ?_
 refine GoC.region ?_
 refine GoO.pure (ps_move rfl rfl) ?_
 refine GoO.pure (ps_assign rfl rfl) ?_
 refine GoO.nil ?_
 refine GoK.code ?_
 have hb := bind_l H; clear H
 obtain ⟨q31, hl49, HK29⟩ := hb
 refine GoC.blockJ [(0, slD a), (1, slD b), (29, .v (.int .i64 ((a.length : Nat) : Int))), (30, .v (.int .i64 ((k24 : Nat) : Int)))] [.one β10 3 1 (row ([(-1)] : List Int))] (fun v h => ∃ (l32 : (List Int)) (l33 : (List Int)) (x34 : Int), q31 = .go (l32, l33, x34) ∧ v = [(7, .own β6 1 0 l32.length), (8, .own β14 1 0 l33.length)] ∧ h = [.one β6 3 1 (row l32), .one β14 3 1 (row l33)]) ?_ ?_
 refine GoC.loopJ [(0, _), (1, _), (29, _), (30, _)] [.one β10 3 1 (row ([(-1)] : List Int))] (fun m v h => ∃ (l26 : (List Int)) (l27 : (List Int)) (x28 : Int), loopC (stable_Best_B2 a b) m (l26, l27, x28) = some q31 ∧ v = [(7, .own β6 1 0 l26.length), (8, .own β14 1 0 l27.length), (10, .v (.int .i64 x28))] ∧ h = [.one β6 3 1 (row l26), .one β14 3 1 (row l27)]) 1000000 ⟨_, _, _, hl49, rfl, rfl⟩ (EnvD.cons rfl (DLe.len (by first | rfl | omega | (simp only [row_len] <;> first | rfl | omega))) (EnvD.cons rfl (DLe.len (by first | rfl | omega | (simp only [row_len] <;> first | rfl | omega))) (EnvD.eq rfl (EnvD.eq rfl (EnvD.eq rfl (EnvD.eq rfl (EnvD.eq rfl (EnvD.nil)))))))) (TkD.cons _ _ _ _ _ Rem.p0 (HLe.refl _) (TkD.cons _ _ _ _ _ Rem.p0 (HLe.refl _) (TkD.cons _ _ _ _ _ Rem.p0 (HLe.refl _) (TkD.nil _)))) ?_
 rintro m35 v h ⟨l26, l27, x28, hF30, rfl, rfl⟩
 obtain ⟨m35', rfl⟩ | rfl : (∃ x, m35 = x + 1) ∨ m35 = 0 := by cases m35 <;> simp
 case inr => cases hF30
 have hb := bind_l hF30; clear hF30
 obtain ⟨qrm35, H, hF30⟩ := hb
 refine GoC.seq ?_
 refine GoC.seq ?_
 refine GoC.region ?_
 refine GoO.pure (ps_move rfl rfl) ?_
 refine GoO.pure (ps_geq rfl rfl rfl) ?_
 refine GoO.nil ?_
 refine GoK.code ?_
 refine GoC.condD rfl (fun h36 => ?_) (fun h36 => ?_)
 replace H := ite_t h36 H
 refine GoC.skip ?_
 refine GoK.code ?_
 refine GoC.block ?_
 refine GoC.seq ?_
 refine GoC.drawA (.q 0 (.q 1 (.q 2 (.q 3 (.q 4 (.q 5 (.q 6 (.q 7 (.q 8 (.q 9 (.q 10 (.done)))))))))))) follows (by kernel_rfl) ?_
 refine GoP.qN rfl (ps_move rfl rfl) ?_
 refine GoP.qN rfl (ps_move rfl rfl) ?_
 have c37 := ck_l H; replace H := ck_r H
 refine GoP.qN rfl (ps_indexAddrR rfl rfl c37 rfl) ?_
 refine GoP.qN rfl (ps_loadR rfl (idx_lt c37) rfl rfl) ?_
 refine GoP.qN rfl (ps_move rfl rfl) ?_
 refine GoP.qN rfl (ps_move rfl rfl) ?_
 have c38 := ck_l H; replace H := ck_r H
 refine GoP.qN rfl (ps_indexAddr0 rfl rfl c38 rfl) ?_
 refine GoP.qN rfl (ps_load rfl At.p1 At.p1 (idx_lt c38) rfl rfl) ?_
 have c39 := ck_l H; replace H := ck_r H
 refine GoP.qN rfl (ps_indexAddrR rfl rfl c39 rfl) ?_
 refine GoP.qN rfl (ps_loadR rfl (idx_lt c39) rfl rfl) ?_
 refine GoP.qN rfl (ps_assign rfl rfl) ?_
 refine GoP.done ?_
 refine GoK.code ?_
 refine GoC.seq ?_
 refine GoC.region ?_
 refine GoO.pure (ps_move rfl rfl) ?_
 refine GoO.pure (ps_move rfl rfl) ?_
 refine GoO.pure (ps_indexAddr0 rfl rfl c38 rfl) ?_
 refine GoO.pure (ps_load rfl At.p1 At.p1 (idx_lt c38) rfl rfl) ?_
 have c40 := ck_l H; replace H := ck_r H
 refine GoO.pure (ps_add rfl rfl rfl c40) ?_
 refine GoO.pure (ps_indexAddr0 rfl rfl c38 rfl) ?_
 refine GoO.eff1 (ef_store rfl rfl rfl At.p1 (upd_row1 (v := ((l27.getD x28.toNat (0 : Int)) + 1)) rfl) (idx_lt c38) rfl) ?_
 refine GoO.nil ?_
 refine GoK.code ?_
 refine GoC.seq ?_
 refine GoC.drawA (.q 0 (.q 1 (.q 2 (.q 3 (.q 4 (.q 5 (.q 6 (.q 7 (.q 8 (.q 9 (.q 10 (.q 12 (.q 13 (.q 14 (.q 15 (.q 16 (.q 17 (.q 18 (.q 19 (.one 11 (.one 20 (.q 21 (.q 22 (.done)))))))))))))))))))))))) follows (by kernel_rfl) ?_
 refine GoP.qN rfl (ps_move rfl rfl) ?_
 refine GoP.qN rfl (ps_move rfl rfl) ?_
 have c41 := ck_l H; replace H := ck_r H
 refine GoP.qN rfl (ps_indexAddr0 rfl rfl c41 rfl) ?_
 refine GoP.qN rfl (ps_load rfl At.p0 At.p0 (idx_lt c41) rfl rfl) ?_
 refine GoP.qN rfl (ps_lss rfl rfl rfl) ?_
 refine GoP.qN rfl (ps_move rfl rfl) ?_
 refine GoP.decideD 57 rfl (fun h42 => ?_) (fun h42 => ?_)
 replace H := ite_t h42 H
 refine GoP.qF rfl rfl rfl rfl rfl ?_
 refine GoP.qF rfl rfl rfl rfl rfl ?_
 refine GoP.qF rfl rfl rfl rfl rfl ?_
 refine GoP.qF rfl rfl rfl rfl rfl ?_
 refine GoP.qF rfl rfl rfl rfl rfl ?_
 refine GoP.qF rfl rfl rfl rfl rfl ?_
 refine GoP.qF rfl rfl rfl rfl rfl ?_
 refine GoP.qF rfl rfl rfl rfl rfl ?_
 refine GoP.qF rfl rfl rfl rfl rfl ?_
 refine GoP.qF rfl rfl rfl rfl rfl ?_
 refine GoP.qF rfl rfl rfl rfl rfl ?_
 refine GoP.qF rfl rfl rfl rfl rfl ?_
 refine GoP.qF rfl rfl rfl rfl rfl ?_
 refine GoP.oneF rfl rfl rfl rfl rfl ?_
 refine GoP.oneF rfl rfl rfl rfl rfl ?_
 refine GoP.qF rfl rfl rfl rfl rfl ?_
 refine GoP.qN rfl (ps_pickT rfl rfl rfl) ?_
 refine GoP.done ?_
 refine GoK.code ?_
 refine GoC.condT rfl ?_
 refine GoC.region ?_
 refine GoO.pure (ps_move rfl rfl) ?_
 refine GoO.pure (ps_move rfl rfl) ?_
 refine GoO.pure (ps_move rfl rfl) ?_
 refine GoO.pure (ps_move rfl rfl) ?_
 refine GoO.pure (ps_move rfl rfl) ?_
 refine GoO.pure (ps_indexAddr0 rfl rfl c41 rfl) ?_
 refine GoO.pure (ps_load rfl At.p0 At.p0 (idx_lt c41) rfl rfl) ?_
 refine GoO.pure (ps_indexAddr0 rfl rfl c41 rfl) ?_
 refine GoO.eff1 (ef_store rfl rfl rfl At.p0 (upd_row1 (v := x28) rfl) (idx_lt c41) rfl) ?_
 refine GoO.pure (ps_assign rfl rfl) ?_
 refine GoO.nil ?_
 refine GoK.blk ?_
 obtain rfl := Option.some.inj H
 exact GoK.againJ m35' (by omega) ⟨_, _, _, hF30, rfl, rfl⟩ (EnvD.cons rfl (DLe.len (by first | rfl | omega | (simp only [row_len, List.length_set, List.length_cons, List.length_nil, List.length_nil] <;> first | rfl | omega))) (EnvD.cons rfl (DLe.len (by first | rfl | omega | (simp only [row_len, List.length_set] <;> first | rfl | omega))) (EnvD.eq rfl (EnvD.eq rfl (EnvD.eq rfl (EnvD.eq rfl (EnvD.eq rfl (EnvD.nil)))))))) (TkD.cons _ _ _ _ _ Rem.p0 (HLe.refl _) (TkD.cons _ _ _ _ _ Rem.p0 (HLe.refl _) (TkD.cons _ _ _ _ _ Rem.p0 (HLe.refl _) (TkD.nil _))))
 replace H := ite_f h42 H
 refine GoP.qT rfl rfl rfl rfl (ps_move rfl rfl) ?_
 refine GoP.qT rfl rfl rfl rfl (ps_move rfl rfl) ?_
 have c43 := ck_l H; replace H := ck_r H
 refine GoP.qT rfl rfl rfl rfl (ps_indexAddrR rfl rfl c43 rfl) ?_
 refine GoP.qT rfl rfl rfl rfl (ps_loadR rfl (idx_lt c43) rfl rfl) ?_
 refine GoP.qT rfl rfl rfl rfl (ps_move rfl rfl) ?_
 refine GoP.qT rfl rfl rfl rfl (ps_move rfl rfl) ?_
 refine GoP.qT rfl rfl rfl rfl (ps_move rfl rfl) ?_
 refine GoP.qT rfl rfl rfl rfl (ps_indexAddrR rfl rfl c43 rfl) ?_
 refine GoP.qT rfl rfl rfl rfl (ps_loadR rfl (idx_lt c43) rfl rfl) ?_
 refine GoP.qT rfl rfl rfl rfl (ps_move rfl rfl) ?_
 refine GoP.qT rfl rfl rfl rfl (ps_move rfl rfl) ?_
 refine GoP.qT rfl rfl rfl rfl (ps_indexAddr0 rfl rfl c41 rfl) ?_
 refine GoP.qT rfl rfl rfl rfl (ps_load rfl At.p0 At.p0 (idx_lt c41) rfl rfl) ?_
 have hb := bind_l H; clear H
 obtain ⟨r44, e45, H⟩ := hb
 refine GoP.oneC rfl ⟨_, rfl, rfl, rfl⟩ (ef_call rfl (Take.nil _) (Take.nil _) (slices_Index_int_spec (b.getD (((a.getD x28.toNat []).getD ((l27.getD x28.toNat (0 : Int)).toNat) (0 : Int)).toNat) []) x28 e45) (LendL.cons (Lend.refl _ _) (LendL.cons (Lend.refl _ _) (LendL.nil))) rfl (slices_Index_int_I (r44))) (Take.cons _ _ _ _ _ Rem.p0 (Take.cons _ _ _ _ _ Rem.p0 (Take.cons _ _ _ _ _ Rem.p0 (Take.nil _)))) (fun rr HH hp => ?_)
 obtain ⟨rfl, rfl⟩ := hp
 have hb := bind_l H; clear H
 obtain ⟨r46, e47, H⟩ := hb
 refine GoP.oneC rfl ⟨_, rfl, rfl, rfl⟩ (ef_call rfl (Take.nil _) (Take.nil _) (slices_Index_int_spec (b.getD (((a.getD x28.toNat []).getD ((l27.getD x28.toNat (0 : Int)).toNat) (0 : Int)).toNat) []) (l26.getD (((a.getD x28.toNat []).getD ((l27.getD x28.toNat (0 : Int)).toNat) (0 : Int)).toNat) (0 : Int)) e47) (LendL.cons (Lend.refl _ _) (LendL.cons (Lend.refl _ _) (LendL.nil))) rfl (slices_Index_int_I (r46))) (Take.cons _ _ _ _ _ Rem.p0 (Take.cons _ _ _ _ _ Rem.p0 (Take.cons _ _ _ _ _ Rem.p0 (Take.nil _)))) (fun rr HH hp => ?_)
 obtain ⟨rfl, rfl⟩ := hp
 refine GoP.qT rfl rfl rfl rfl (ps_lss rfl rfl rfl) ?_
 refine GoP.qN rfl (ps_pickF rfl rfl rfl) ?_
 refine GoP.done ?_
 refine GoK.code ?_
 refine GoC.condD rfl (fun h48 => ?_) (fun h48 => ?_)
 replace H := ite_t h48 H
 refine GoC.region ?_
 refine GoO.pure (ps_move rfl rfl) ?_
 refine GoO.pure (ps_move rfl rfl) ?_
 refine GoO.pure (ps_move rfl rfl) ?_
 refine GoO.pure (ps_move rfl rfl) ?_
 refine GoO.pure (ps_move rfl rfl) ?_
 refine GoO.pure (ps_indexAddr0 rfl rfl c41 rfl) ?_
 refine GoO.pure (ps_load rfl At.p0 At.p0 (idx_lt c41) rfl rfl) ?_
 refine GoO.pure (ps_indexAddr0 rfl rfl c41 rfl) ?_
 refine GoO.eff1 (ef_store rfl rfl rfl At.p0 (upd_row1 (v := x28) rfl) (idx_lt c41) rfl) ?_
 refine GoO.pure (ps_assign rfl rfl) ?_
 refine GoO.nil ?_
 refine GoK.blk ?_
 obtain rfl := Option.some.inj H
 exact GoK.againJ m35' (by omega) ⟨_, _, _, hF30, rfl, rfl⟩ (EnvD.cons rfl (DLe.len (by first | rfl | omega | (simp only [row_len, List.length_set, List.length_cons, List.length_nil, List.length_nil] <;> first | rfl | omega))) (EnvD.cons rfl (DLe.len (by first | rfl | omega | (simp only [row_len, List.length_set] <;> first | rfl | omega))) (EnvD.eq rfl (EnvD.eq rfl (EnvD.eq rfl (EnvD.eq rfl (EnvD.eq rfl (EnvD.nil)))))))) (TkD.cons _ _ _ _ _ Rem.p0 (HLe.refl _) (TkD.cons _ _ _ _ _ Rem.p0 (HLe.refl _) (TkD.cons _ _ _ _ _ Rem.p0 (HLe.refl _) (TkD.nil _))))
 replace H := ite_f h48 H
 refine GoC.skip ?_
 refine GoK.blk ?_
 obtain rfl := Option.some.inj H
 exact GoK.againJ m35' (by omega) ⟨_, _, _, hF30, rfl, rfl⟩ (EnvD.eq rfl (EnvD.cons rfl (DLe.len (by first | rfl | omega | (simp only [row_len, List.length_set] <;> first | rfl | omega))) (EnvD.eq rfl (EnvD.eq rfl (EnvD.eq rfl (EnvD.eq rfl (EnvD.eq rfl (EnvD.nil)))))))) (TkD.cons _ _ _ _ _ Rem.p0 (HLe.refl _) (TkD.cons _ _ _ _ _ Rem.p0 (HLe.refl _) (TkD.cons _ _ _ _ _ Rem.p0 (HLe.refl _) (TkD.nil _))))
 replace H := ite_f h36 H
 refine GoC.exit rfl ?_
 obtain rfl := Option.some.inj H
 obtain rfl := Option.some.inj hF30
 exact GoK.meet ⟨_, _, _, rfl, rfl, rfl⟩ (EnvD.cons rfl (DLe.len (by first | rfl | omega | (simp only [row_len] <;> first | rfl | omega))) (EnvD.cons rfl (DLe.len (by first | rfl | omega | (simp only [row_len] <;> first | rfl | omega))) (EnvD.eq rfl (EnvD.eq rfl (EnvD.eq rfl (EnvD.eq rfl (EnvD.nil))))))) (TkD.cons _ _ _ _ _ Rem.p0 (HLe.refl _) (TkD.cons _ _ _ _ _ Rem.p0 (HLe.refl _) (TkD.cons _ _ _ _ _ Rem.p0 (HLe.refl _) (TkD.nil _))))
 rintro v h ⟨l32, l33, x34, rfl, rfl, rfl⟩
 have H := HK29; clear HK29
 refine GoK.blk ?_
 refine GoK.code ?_
 refine GoC.region ?_
 refine GoO.pure (ps_add rfl rfl rfl hIk24) ?_
 refine GoO.pure (ps_move rfl rfl) ?_
 refine GoO.nil ?_
 obtain rfl := Option.some.inj H
 exact GoK.againJ m25' (by omega) ⟨_, _, _, ⟨by omega, hF20⟩, rfl, rfl⟩ (EnvD.eq rfl (EnvD.cons rfl (DLe.len (by first | rfl | omega | (simp only [row_len] <;> first | rfl | omega))) (EnvD.cons rfl (DLe.len (by first | rfl | omega | (simp only [row_len] <;> first | rfl | omega))) (EnvD.eq rfl (EnvD.eq rfl (EnvD.eq rfl (EnvD.nil))))))) (TkD.cons _ _ _ _ _ Rem.p0 (HLe.refl _) (TkD.cons _ _ _ _ _ Rem.p0 (HLe.refl _) (TkD.cons _ _ _ _ _ Rem.p0 (HLe.refl _) (TkD.nil _))))
 obtain rfl : m25 = 0 := by omega
 refine GoC.exit rfl ?_
 cases hF20
 exact GoK.meet ⟨rfl, rfl⟩ (EnvD.cons rfl (DLe.len (by first | rfl | omega | (simp only [row_len] <;> first | rfl | omega))) (EnvD.eq rfl (EnvD.nil))) (TkD.cons _ _ _ _ _ Rem.p0 (HLe.refl _) (TkD.cons _ _ _ _ _ Rem.p0 (HLe.refl _) (TkD.cons _ _ _ _ _ Rem.p0 (HLe.refl _) (TkD.nil _))))
 rintro v h ⟨rfl, rfl⟩
 have H := HK19; clear HK19
 refine GoK.code ?_
 refine GoC.seq ?_
 refine GoC.region ?_
 refine GoO.pure (ps_move rfl rfl) ?_
 refine GoO.pure (ps_len rfl (by constructor) rfl) ?_
 refine GoO.effB (ef_makeZ rfl rfl c9 rfl rfl rfl) (fun β51 => ?_)
 refine GoO.le (Le.reH At.p0 (HLe.zeros (α := Int) ⟨trivial, DLe.refl _⟩)) ?_
 refine GoO.pure (ps_assign rfl rfl) ?_
 refine GoO.nil ?_
 refine GoK.code ?_
 refine GoC.seq ?_
 refine GoC.seq ?_
 refine GoC.region ?_
 refine GoO.pure (ps_move rfl rfl) ?_
 refine GoO.pure (ps_len rfl (by constructor) rfl) ?_
 refine GoO.lenLe (n := l22.length) (x := .tmp 87) rfl (by constructor) own_lenLe (fun ml52 => ?_)
 refine GoO.pure (ps_move rfl rfl) ?_
 refine GoO.nil ?_
 refine GoK.code ?_
 have hb := bind_l H; clear H
 obtain ⟨l57, hl61, HK54⟩ := hb
 refine GoC.blockJ [] [.one β6 3 1 (row l22), .one β14 3 1 (row l23), .one β10 3 1 (row ([(-1)] : List Int))] (fun v h => v = [(12, .own β51 1 0 l57.length)] ∧ h = [.one β51 3 1 (row l57)]) ?_ ?_
 refine GoC.loopJ [(87, _), (88, _)] [.one β6 3 1 (row l22), .one β14 3 1 (row l23), .one β10 3 1 (row ([(-1)] : List Int))] (fun m v h => ∃ (k58 : Nat) (l53 : (List Int)), (k58 + m = l22.length ∧ forN (stable_Best_B3 l22) m k58 l53 = some l57) ∧ v = [(89, .v (.int .i64 ((k58 : Nat) : Int))), (12, .own β51 1 0 l53.length)] ∧ h = [.one β51 3 1 (row l53)]) l22.length ⟨_, _, ⟨by omega, hl61⟩, rfl, rfl⟩ (EnvD.eq rfl (EnvD.cons rfl (DLe.len (by first | rfl | omega | (simp only [row_len, List.length_replicate] <;> first | rfl | omega))) (EnvD.eq rfl (EnvD.eq rfl (EnvD.nil))))) (TkD.cons _ _ _ _ _ Rem.p0 (HLe.refl _) (TkD.cons _ _ _ _ _ Rem.p0 (HLe.refl _) (TkD.cons _ _ _ _ _ Rem.p0 (HLe.refl _) (TkD.cons _ _ _ _ _ Rem.p0 (HLe.refl _) (TkD.nil _))))) ?_
 rintro m59 v h ⟨k58, l53, ⟨hkk58, hF55⟩, rfl, rfl⟩
 refine GoC.seq ?_
 refine GoC.region ?_
 refine GoO.pure (ps_lss rfl rfl rfl) ?_
 refine GoO.nil ?_
 refine GoK.code ?_
 refine GoC.seq ?_
 refine GoC.condD rfl (fun (hk58 : (k58 : Int) < ((l22.length : Nat) : Int)) => ?_) (fun (hk58 : ¬ (k58 : Int) < ((l22.length : Nat) : Int)) => ?_)
 obtain ⟨m59', rfl⟩ : ∃ x, m59 = x + 1 := ⟨m59 - 1, by omega⟩
 have hb := bind_l hF55; clear hF55
 obtain ⟨qrm59, H, hF55⟩ := hb
 have hnk58 : k58 < l22.length := by omega
 have hIk58 : InI ((k58 : Int) + 1) := inI_len hk58 ml52
 refine GoC.skip ?_
 refine GoK.code ?_
 refine GoC.seq ?_
 refine GoC.block ?_
 refine GoC.seq ?_
 refine GoC.region ?_
 refine GoO.pure (ps_move rfl rfl) ?_
 refine GoO.pure (ps_indexAddr0N rfl rfl hnk58 rfl) ?_
 refine GoO.pure (ps_load rfl At.p1 At.p1 hnk58 rfl rfl) ?_
 refine GoO.pure (ps_assign rfl rfl) ?_
 refine GoO.pure (ps_assign rfl rfl) ?_
 refine GoO.nil ?_
 refine GoK.code ?_
 refine GoC.region ?_
 refine GoO.pure (ps_move rfl rfl) ?_
 refine GoO.pure (ps_move rfl rfl) ?_
 refine GoO.pure (ps_move rfl rfl) ?_
 have c60 := ck_l H; replace H := ck_r H
 refine GoO.pure (ps_indexAddr0 rfl rfl c60 rfl) ?_
 refine GoO.eff1 (ef_store rfl rfl rfl At.p0 (upd_row1 (v := ((k58 : Nat) : Int)) rfl) (idx_lt c60) rfl) ?_
 refine GoO.nil ?_
 refine GoK.blk ?_
 refine GoK.code ?_
 refine GoC.region ?_
 refine GoO.pure (ps_add rfl rfl rfl hIk58) ?_
 refine GoO.pure (ps_move rfl rfl) ?_
 refine GoO.nil ?_
 obtain rfl := Option.some.inj H
 exact GoK.againJ m59' (by omega) ⟨_, _, ⟨by omega, hF55⟩, rfl, rfl⟩ (EnvD.eq rfl (EnvD.cons rfl (DLe.len (by first | rfl | omega | (simp only [row_len, List.length_set] <;> first | rfl | omega))) (EnvD.eq rfl (EnvD.eq rfl (EnvD.nil))))) (TkD.cons _ _ _ _ _ Rem.p0 (HLe.refl _) (TkD.cons _ _ _ _ _ Rem.p0 (HLe.refl _) (TkD.cons _ _ _ _ _ Rem.p0 (HLe.refl _) (TkD.cons _ _ _ _ _ Rem.p0 (HLe.refl _) (TkD.nil _)))))
 obtain rfl : m59 = 0 := by omega
 refine GoC.exit rfl ?_
 cases hF55
 exact GoK.meet ⟨rfl, rfl⟩ (EnvD.cons rfl (DLe.len (by first | rfl | omega | (simp only [row_len] <;> first | rfl | omega))) (EnvD.nil)) (TkD.cons _ _ _ _ _ Rem.p0 (HLe.refl _) (TkD.cons _ _ _ _ _ Rem.p0 (HLe.refl _) (TkD.cons _ _ _ _ _ Rem.p0 (HLe.refl _) (TkD.cons _ _ _ _ _ Rem.p0 (HLe.refl _) (TkD.nil _)))))
 rintro v h ⟨rfl, rfl⟩
 have H := HK54; clear HK54
 refine GoK.code ?_
 refine GoC.seq ?_
 refine GoC.region ?_
 refine GoO.pure (ps_move rfl rfl) ?_
 refine GoO.pure (ps_assign rfl rfl) ?_
 refine GoO.pure (ps_assign rfl rfl) ?_
 refine GoO.nil ?_
 refine GoK.code ?_
 obtain rfl := Option.some.inj H
 exact GoC.retL (ds := [.own β51 1 0 l57.length, .v (.int .i64 0)]) Try.results28 (ResL.cons (ResD.tmp rfl) (ResL.cons (ResD.tmp rfl) (ResL.nil))) (Take.cons _ _ _ _ _ Rem.p0 (Take.nil _)) ⟨β51, rfl, rfl⟩

end Go.Proofs.Ytdjllkoljpjohaa
