/- The functions weirkeep.DoubleBack, told as plain functions, and that the code does as they say. -/
import Derived.Test.YtmdpjhclgofbfaaTys
import Derived.Test.YtmdpjhclgofbfaaDat
import Derived.Test.YtmdpjhclgofbfaaGdouble
import Derived.Test.YtmdpjhclgofbfaaGkeep
import Derived.Test.YtmdpjhclgofbfaaGref
import Derived.Test.YtmdpjhclgofbfaaGslices
namespace Go.Proofs.Ytmdpjhclgofbfaa
open Go Go.Proofs.Ytmdpjhclgofbfaa.Sx
set_option linter.unusedVariables false
set_option linter.unusedSimpArgs false
def weirkeep_DoubleBack_B1 (t : (List (List Int))) : Nat → (List (List Int)) → Option ((List (List Int))) := fun k24 g18 =>
 ck (k24 < g18.length) <|
 some (g18.set k24 (List.replicate (((t.length : Nat) : Int).toNat) (0 : Int)))
def weirkeep_DoubleBack_B3 (r7 : (List Piece)) (k38 : Nat) : Nat → (List (List Int)) → Option ((List (List Int))) := fun k53 g47 =>
 ck (k53 < g47.length) <|
 ck (0 ≤ (((r7.getD k38 El.d).arcs).getD k53 (0 : Int)) ∧ (((r7.getD k38 El.d).arcs).getD k53 (0 : Int)) < (((g47.getD k53 []).length : Nat) : Int)) <|
 ck (InI (((g47.getD k53 []).getD ((((r7.getD k38 El.d).arcs).getD k53 (0 : Int)).toNat) (0 : Int)) + ((r7.getD k38 El.d).amount))) <|
 some (g47.set k53 ((g47.getD k53 []).set ((((r7.getD k38 El.d).arcs).getD k53 (0 : Int)).toNat) (((g47.getD k53 []).getD ((((r7.getD k38 El.d).arcs).getD k53 (0 : Int)).toNat) (0 : Int)) + ((r7.getD k38 El.d).amount))))
def weirkeep_DoubleBack_B2 (t : (List (List Int))) (r7 : (List Piece)) : Nat → (Int × (List (List Int))) → Option (Ct (Int × (List (List Int))) (Bool)) := fun k38 (x30, g31) =>
 if ((r7.getD k38 El.d).amount) < 1 then
  some (.ret false)
 else
  (weirref_Numbers_F ((r7.getD k38 El.d).arcs) ((t.length : Nat) : Int)).bind fun r42 =>
  if (!r42) = true then
   some (.ret false)
  else
   ck (InI (x30 + ((r7.getD k38 El.d).amount))) <|
   (forN (weirkeep_DoubleBack_B3 r7 k38) (((r7.getD k38 El.d).arcs).length) 0 g31).bind fun g52 =>
   some (.go ((x30 + ((r7.getD k38 El.d).amount)), g52))
def weirkeep_DoubleBack_B4 (t : (List (List Int))) (g37 : (List (List Int))) : Nat → Unit → Option (Ct (Unit) (Bool)) := fun k63 _ =>
 ck (k63 < g37.length) <|
 (slices_Equal_int_F (g37.getD k63 []) (t.getD k63 [])).bind fun r66 =>
 if (!r66) = true then
  some (.ret false)
 else
  some (.go ())
def weirkeep_DoubleBack_F (t : (List (List Int))) : Option (Bool) :=
 (weirkeep_doubles_F).bind fun r1 =>
 if (!r1) = true then
  some false
 else
  (double_Check_F t).bind fun (r4, r5) =>
  (double_Split_F t).bind fun (r7, r9) =>
  if r5 ≠ 0 then
   if r9 = r5 then
    some (decide (((r7.length : Nat) : Int) = 0))
   else
    some false
  else
   ck (0 ≤ ((t.length : Nat) : Int) ∧ ((t.length : Nat) : Int) ≤ 10000000000) <|
   (forN (weirkeep_DoubleBack_B1 t) (((t.length : Nat) : Int).toNat) 0 (List.replicate (((t.length : Nat) : Int).toNat) ([] : List Int))).bind fun g23 =>
   (forC (weirkeep_DoubleBack_B2 t r7) r7.length 0 (0, g23)).bind fun q => match q with
   | .go (x36, g37) =>
    (forC (weirkeep_DoubleBack_B4 t g37) t.length 0 ()).bind fun q => match q with
    | .go _ =>
     if r9 = 0 then
      if x36 = r4 then
       ck (InI (((t.length : Nat) : Int) - 1)) <|
       ck (InI ((((t.length : Nat) : Int) - 1) * (((t.length : Nat) : Int) - 1))) <|
       ck (InI (((((t.length : Nat) : Int) - 1) * (((t.length : Nat) : Int) - 1)) + 1)) <|
       some (decide (((r7.length : Nat) : Int) ≤ (((((t.length : Nat) : Int) - 1) * (((t.length : Nat) : Int) - 1)) + 1)))
      else
       some false
     else
      some false
    | .ret x => some x
   | .ret x => some x
def weirkeep_DoubleBack_P (out : Bool) (d : D) (H : List HL) : Prop := d = .v (.bool out) ∧ H = []
theorem weirkeep_DoubleBack_I (out : Bool) : IndepP (weirkeep_DoubleBack_P out) := IndepP.of (by rintro _ _ ⟨rfl, rfl⟩; exact ⟨inferInstance, inferInstance⟩)
set_option maxRecDepth 100000 in
set_option maxHeartbeats 4000000 in
theorem weirkeep_DoubleBack_spec (t : (List (List Int))) {out : Bool} (H : weirkeep_DoubleBack_F t = some out) : Does Try.prog 3 [slD t] [] (weirkeep_DoubleBack_P out) := by
 unfold weirkeep_DoubleBack_F at H
 refine Does.intro Try.func3 rfl Try.ntmps3 rfl fun w0 I0 => ?_
 refine GoC.seq ?_
 refine GoC.region ?_
 refine GoO.pure (ps_assign rfl rfl) ?_
 refine GoO.nil ?_
 refine GoK.code ?_
 refine GoC.seq ?_
 refine GoC.seq ?_
 refine GoC.region ?_
 have hb := bind_l H; clear H
 obtain ⟨r1, e2, H⟩ := hb
 refine GoO.effC (ef_call rfl (Take.nil _) (Take.nil _) (weirkeep_doubles_spec e2) (LendL.nil) rfl (weirkeep_doubles_I (r1))) (fun rr HH hp => ?_)
 obtain ⟨rfl, rfl⟩ := hp
 refine GoO.pure (ps_not rfl rfl) ?_
 refine GoO.nil ?_
 refine GoK.code ?_
 refine GoC.cond rfl (fun h3 => ?_) (fun h3 => ?_)
 replace H := itb_t h3 H
 refine GoC.seq ?_
 refine GoC.region ?_
 refine GoO.pure (ps_assign rfl rfl) ?_
 refine GoO.nil ?_
 refine GoK.code ?_
 obtain rfl := Option.some.inj H
 exact GoC.retL (ds := [.v (.bool false)]) Try.results3 (ResL.cons (ResD.tmp rfl) (ResL.nil)) (Take.nil _) ⟨rfl, rfl⟩
 replace H := itb_f h3 H
 refine GoC.skip ?_
 refine GoK.code ?_
 refine GoC.seq ?_
 refine GoC.region ?_
 refine GoO.pure (ps_move rfl rfl) ?_
 have hb := bind_l H; clear H
 obtain ⟨⟨r4, r5⟩, e6, H⟩ := hb
 refine GoO.effC (ef_call rfl (Take.nil _) (Take.nil _) (double_Check_spec t e6) (LendL.cons (Lend.refl _ _) (LendL.nil)) rfl (double_Check_I (r4, r5))) (fun rr HH hp => ?_)
 obtain ⟨rfl, rfl⟩ := hp
 refine GoO.pure (ps_move rfl rfl) ?_
 refine GoO.pure (ps_extract rfl rfl rfl) ?_
 refine GoO.pure (ps_extract rfl rfl rfl) ?_
 refine GoO.pure (ps_assign rfl rfl) ?_
 refine GoO.pure (ps_assign rfl rfl) ?_
 refine GoO.nil ?_
 refine GoK.code ?_
 refine GoC.seq ?_
 refine GoC.region ?_
 refine GoO.pure (ps_move rfl rfl) ?_
 have hb := bind_l H; clear H
 obtain ⟨⟨r7, r9⟩, e10, H⟩ := hb
 refine GoO.callF rfl (Take.nil _) (Take.nil _) (double_Split_spec t e10) (LendL.cons (Lend.refl _ _) (LendL.nil)) rfl no_fps (fun rr HH hp => ?_)
 obtain ⟨β8, rfl, rfl⟩ := hp
 refine GoO.pure (ps_move rfl rfl) ?_
 refine GoO.pure (ps_extract rfl rfl rfl) ?_
 refine GoO.pure (ps_extract rfl rfl rfl) ?_
 refine GoO.pure (ps_assign rfl rfl) ?_
 refine GoO.pure (ps_assign rfl rfl) ?_
 refine GoO.nil ?_
 refine GoK.code ?_
 refine GoC.seq ?_
 refine GoC.seq ?_
 refine GoC.region ?_
 refine GoO.pure (ps_move rfl rfl) ?_
 refine GoO.pure (ps_neq rfl rfl rfl) ?_
 refine GoO.nil ?_
 refine GoK.code ?_
 refine GoC.condD rfl (fun h11 => ?_) (fun h11 => ?_)
 replace H := ite_t h11 H
 refine GoC.seq ?_
 refine GoC.region ?_
 refine GoO.pure (ps_move rfl rfl) ?_
 refine GoO.pure (ps_move rfl rfl) ?_
 refine GoO.pure (ps_eql rfl rfl rfl) ?_
 refine GoO.pure (ps_move rfl rfl) ?_
 refine GoO.guardD rfl rfl rfl rfl (fun h12 => ?_) (fun h12 => ?_)
 replace H := ite_t h12 H
 refine GoO.pure (ps_move rfl rfl) ?_
 refine GoO.guardT rfl rfl rfl ?_
 refine GoO.pure (ps_len rfl (by constructor) rfl) ?_
 refine GoO.lenLe (n := r7.length) (x := .tmp 34) rfl (by constructor) own_lenLe (fun ml13 => ?_)
 refine GoO.guardT rfl rfl rfl ?_
 refine GoO.pure (ps_eql rfl rfl rfl) ?_
 refine GoO.pure (ps_pickT rfl rfl rfl) ?_
 refine GoO.pure (ps_assign rfl rfl) ?_
 refine GoO.nil ?_
 refine GoK.code ?_
 obtain rfl := Option.some.inj H
 exact GoC.retL (ds := [.v (.bool (decide (((r7.length : Nat) : Int) = 0)))]) Try.results3 (ResL.cons (ResD.tmp rfl) (ResL.nil)) (Take.nil _) ⟨rfl, rfl⟩
 replace H := ite_f h12 H
 refine GoO.guardF rfl rfl rfl rfl ?_
 refine GoO.guardF rfl rfl rfl rfl ?_
 refine GoO.pure (ps_pickF rfl rfl rfl) ?_
 refine GoO.pure (ps_assign rfl rfl) ?_
 refine GoO.nil ?_
 refine GoK.code ?_
 obtain rfl := Option.some.inj H
 exact GoC.retL (ds := [.v (.bool false)]) Try.results3 (ResL.cons (ResD.tmp rfl) (ResL.nil)) (Take.nil _) ⟨rfl, rfl⟩
 replace H := ite_f h11 H
 refine GoC.skip ?_
 refine GoK.code ?_
 refine GoC.seq ?_
 refine GoC.region ?_
 refine GoO.pure (ps_move rfl rfl) ?_
 refine GoO.pure (ps_len rfl (by constructor) rfl) ?_
 refine GoO.lenLe (n := t.length) (x := .tmp 38) rfl (by constructor) sl_lenLe (fun ml14 => ?_)
 refine GoO.pure (ps_assign rfl rfl) ?_
 refine GoO.nil ?_
 refine GoK.code ?_
 refine GoC.seq ?_
 refine GoC.region ?_
 refine GoO.pure (ps_assign rfl rfl) ?_
 refine GoO.nil ?_
 refine GoK.code ?_
 refine GoC.seq ?_
 refine GoC.region ?_
 refine GoO.pure (ps_move rfl rfl) ?_
 have c16 := ck_l H; replace H := ck_r H
 refine GoO.effB (ef_makeZ rfl rfl c16 rfl rfl rfl) (fun β15 => ?_)
 refine GoO.le (Le.reH At.p0 (HLe.grid0Z (α := Int) (n := ((t.length : Nat) : Int).toNat) (fun _ => DLe.nilOwn))) ?_
 refine GoO.le (Le.grid0 3 Int (((t.length : Nat) : Int).toNat)) ?_
 refine GoO.pure (ps_assign rfl rfl) ?_
 refine GoO.nil ?_
 refine GoK.code ?_
 refine GoC.seq ?_
 refine GoC.seq ?_
 refine GoC.region ?_
 refine GoO.pure (ps_move rfl rfl) ?_
 refine GoO.pure (ps_len rfl (by constructor) rfl) ?_
 refine GoO.lenLe (n := ((t.length : Nat) : Int).toNat) (x := .tmp 42) rfl (by constructor) own_lenLe (fun ml17 => ?_)
 refine GoO.pure (ps_move rfl rfl) ?_
 refine GoO.nil ?_
 refine GoK.code ?_
 have hb := bind_l H; clear H
 obtain ⟨g23, hl28, HK20⟩ := hb
 refine GoC.blockJ [(0, slD t), (3, .v (.int .i64 r4)), (5, .own β8 2 0 r7.length), (6, .v (.int .i64 r9)), (7, .v (.int .i64 ((t.length : Nat) : Int))), (8, .v (.int .i64 0))] [.one β8 32 2 (row r7)] (fun v h => ∃ (Γ19 : Nat → BK), v = [(9, .own β15 1 0 g23.length)] ∧ h = [.one β15 30 1 (gridC Γ19 g23), gridH (α := Int) 3 Γ19 g23]) ?_ ?_
 refine GoC.loopJ [(0, _), (3, _), (5, _), (6, _), (7, _), (8, _), (43, _)] [.one β8 32 2 (row r7)] (fun mQ v h => ∃ (k24 : Nat) (g18 : (List (List Int))) (Γ19 : Nat → BK), (k24 + mQ = ((t.length : Nat) : Int).toNat ∧ forN (weirkeep_DoubleBack_B1 t) mQ k24 g18 = some g23) ∧ v = [(44, .v (.int .i64 ((k24 : Nat) : Int))), (9, .own β15 1 0 g18.length)] ∧ h = [.one β15 30 1 (gridC Γ19 g18), gridH (α := Int) 3 Γ19 g18]) (((t.length : Nat) : Int).toNat) ⟨_, _, (fun _ => (⟨0, 0, 0⟩ : BK)), ⟨by omega, hl28⟩, rfl, rfl⟩ (EnvD.eq rfl (EnvD.cons rfl (DLe.len (by first | rfl | omega | (simp only [row_len, gridC_len, rowO_len, List.length_cons, List.length_nil, List.length_replicate, List.length_nil] <;> first | rfl | omega))) (EnvD.eq rfl (EnvD.eq rfl (EnvD.eq rfl (EnvD.eq rfl (EnvD.eq rfl (EnvD.eq rfl (EnvD.eq rfl (EnvD.nil)))))))))) (TkD.cons _ _ _ _ _ Rem.p1 (HLe.refl _) (TkD.cons _ _ _ _ _ Rem.p0 (HLe.refl _) (TkD.cons _ _ _ _ _ Rem.p0 (HLe.refl _) (TkD.nil _)))) ?_
 rintro m25 v h ⟨k24, g18, Γ19, ⟨hkk24, hF21⟩, rfl, rfl⟩
 refine GoC.seq ?_
 refine GoC.region ?_
 refine GoO.pure (ps_lss rfl rfl rfl) ?_
 refine GoO.nil ?_
 refine GoK.code ?_
 refine GoC.seq ?_
 refine GoC.condD rfl (fun (hk24 : (k24 : Int) < ((((t.length : Nat) : Int).toNat : Nat) : Int)) => ?_) (fun (hk24 : ¬ (k24 : Int) < ((((t.length : Nat) : Int).toNat : Nat) : Int)) => ?_)
 obtain ⟨m25', rfl⟩ : ∃ x, m25 = x + 1 := ⟨m25 - 1, by omega⟩
 have hb := bind_l hF21; clear hF21
 obtain ⟨qrm25, H, hF21⟩ := hb
 have hnk24 : k24 < ((t.length : Nat) : Int).toNat := by omega
 have hIk24 : InI ((k24 : Int) + 1) := inI_len hk24 ml17
 refine GoC.skip ?_
 refine GoK.code ?_
 refine GoC.seq ?_
 refine GoC.block ?_
 refine GoC.seq ?_
 refine GoC.region ?_
 refine GoO.pure (ps_move rfl rfl) ?_
 refine GoO.pure (ps_assign rfl rfl) ?_
 refine GoO.nil ?_
 refine GoK.code ?_
 refine GoC.region ?_
 refine GoO.pure (ps_move rfl rfl) ?_
 refine GoO.pure (ps_move rfl rfl) ?_
 refine GoO.pure (ps_move rfl rfl) ?_
 refine GoO.effB (ef_makeZ rfl rfl c16 rfl rfl rfl) (fun β26 => ?_)
 refine GoO.le (Le.reH At.p0 (HLe.zeros (α := Int) ⟨trivial, DLe.refl _⟩)) ?_
 have c27 := ck_l H; replace H := ck_r H
 refine GoO.pure (ps_indexAddr0N rfl rfl c27 rfl) ?_
 refine GoO.eff1 (ef_store rfl rfl rfl At.p1 (upd_grid (α := Int) (ys := (List.replicate (((t.length : Nat) : Int).toNat) (0 : Int))) rfl (by first | rfl | omega | (simp only [subl_length, cpl_length, List.length_set, List.length_append, List.length_cons, List.length_nil, List.length_replicate, row_len]; omega) | (simp only [subl_length, cpl_length, List.length_set, List.length_append, List.length_cons, List.length_nil, List.length_replicate, row_len]; done) | simp)) c27 rfl) ?_
 refine GoO.le (Le.absorb (α := Int) (B := Γ19) (xs := g18) (ys := (List.replicate (((t.length : Nat) : Int).toNat) (0 : Int))) (i := k24) Rem.p0 Rem.p1 rfl (fun _ _ => rfl) (fun _ _ => rfl)) ?_
 refine GoO.nil ?_
 refine GoK.blk ?_
 refine GoK.code ?_
 refine GoC.region ?_
 refine GoO.pure (ps_add rfl rfl rfl hIk24) ?_
 refine GoO.pure (ps_move rfl rfl) ?_
 refine GoO.nil ?_
 obtain rfl := Option.some.inj H
 exact GoK.againJ m25' (by omega) ⟨_, _, (updF Γ19 k24 β26), ⟨by omega, hF21⟩, rfl, rfl⟩ (EnvD.eq rfl (EnvD.cons rfl (DLe.len (by first | rfl | omega | (simp only [row_len, gridC_len, rowO_len, List.length_set, List.length_replicate] <;> first | rfl | omega))) (EnvD.eq rfl (EnvD.eq rfl (EnvD.eq rfl (EnvD.eq rfl (EnvD.eq rfl (EnvD.eq rfl (EnvD.eq rfl (EnvD.nil)))))))))) (TkD.cons _ _ _ _ _ Rem.p1 (HLe.refl _) (TkD.cons _ _ _ _ _ Rem.p0 (HLe.refl _) (TkD.cons _ _ _ _ _ Rem.p0 (HLe.refl _) (TkD.nil _))))
 obtain rfl : m25 = 0 := by omega
 refine GoC.exit rfl ?_
 cases hF21
 exact GoK.meet ⟨Γ19, rfl, rfl⟩ (EnvD.cons rfl (DLe.len (by first | rfl | omega | (simp only [row_len, gridC_len, rowO_len] <;> first | rfl | omega))) (EnvD.eq rfl (EnvD.eq rfl (EnvD.eq rfl (EnvD.eq rfl (EnvD.eq rfl (EnvD.eq rfl (EnvD.nil)))))))) (TkD.cons _ _ _ _ _ Rem.p0 (HLe.refl _) (TkD.cons _ _ _ _ _ Rem.p0 (HLe.refl _) (TkD.cons _ _ _ _ _ Rem.p0 (HLe.refl _) (TkD.nil _))))
 rintro v h ⟨Γ19, rfl, rfl⟩
 have H := HK20; clear HK20
 refine GoK.code ?_
 refine GoC.seq ?_
 refine GoC.seq ?_
 refine GoC.region ?_
 refine GoO.pure (ps_move rfl rfl) ?_
 refine GoO.pure (ps_len rfl (by constructor) rfl) ?_
 refine GoO.lenLe (n := r7.length) (x := .tmp 53) rfl (by constructor) own_lenLe (fun ml29 => ?_)
 refine GoO.pure (ps_move rfl rfl) ?_
 refine GoO.nil ?_
 refine GoK.code ?_
 have hb := bind_l H; clear H
 obtain ⟨q35, hl59, HK33⟩ := hb
 refine GoC.blockJ [(0, slD t), (3, .v (.int .i64 r4)), (5, .own β8 2 0 r7.length), (6, .v (.int .i64 r9)), (7, .v (.int .i64 ((t.length : Nat) : Int)))] [.one β8 32 2 (row r7)] (fun v h => ∃ (x36 : Int) (g37 : (List (List Int))) (Γ32 : Nat → BK), q35 = .go (x36, g37) ∧ v = [(8, .v (.int .i64 x36)), (9, .own β15 1 0 g37.length)] ∧ h = [.one β15 30 1 (gridC Γ32 g37), gridH (α := Int) 3 Γ32 g37]) ?_ ?_
 refine GoC.loopJ [(0, _), (3, _), (5, _), (6, _), (7, _), (53, _), (54, _)] [.one β8 32 2 (row r7)] (fun mQ v h => ∃ (k38 : Nat) (x30 : Int) (g31 : (List (List Int))) (Γ32 : Nat → BK), (k38 + mQ = r7.length ∧ forC (weirkeep_DoubleBack_B2 t r7) mQ k38 (x30, g31) = some q35) ∧ v = [(55, .v (.int .i64 ((k38 : Nat) : Int))), (8, .v (.int .i64 x30)), (9, .own β15 1 0 g31.length)] ∧ h = [.one β15 30 1 (gridC Γ32 g31), gridH (α := Int) 3 Γ32 g31]) r7.length ⟨_, _, _, Γ19, ⟨by omega, hl59⟩, rfl, rfl⟩ (EnvD.eq rfl (EnvD.eq rfl (EnvD.cons rfl (DLe.len (by first | rfl | omega | (simp only [row_len, gridC_len, rowO_len] <;> first | rfl | omega))) (EnvD.eq rfl (EnvD.eq rfl (EnvD.eq rfl (EnvD.eq rfl (EnvD.eq rfl (EnvD.eq rfl (EnvD.eq rfl (EnvD.nil))))))))))) (TkD.cons _ _ _ _ _ Rem.p0 (HLe.refl _) (TkD.cons _ _ _ _ _ Rem.p0 (HLe.refl _) (TkD.cons _ _ _ _ _ Rem.p0 (HLe.refl _) (TkD.nil _)))) ?_
 rintro m39 v h ⟨k38, x30, g31, Γ32, ⟨hkk38, hF34⟩, rfl, rfl⟩
 refine GoC.seq ?_
 refine GoC.region ?_
 refine GoO.pure (ps_lss rfl rfl rfl) ?_
 refine GoO.nil ?_
 refine GoK.code ?_
 refine GoC.seq ?_
 refine GoC.condD rfl (fun (hk38 : (k38 : Int) < ((r7.length : Nat) : Int)) => ?_) (fun (hk38 : ¬ (k38 : Int) < ((r7.length : Nat) : Int)) => ?_)
 obtain ⟨m39', rfl⟩ : ∃ x, m39 = x + 1 := ⟨m39 - 1, by omega⟩
 have hb := bind_l hF34; clear hF34
 obtain ⟨qrm39, H, hF34⟩ := hb
 have hnk38 : k38 < r7.length := by omega
 have hIk38 : InI ((k38 : Int) + 1) := inI_len hk38 ml29
 refine GoC.skip ?_
 refine GoK.code ?_
 refine GoC.seq ?_
 refine GoC.block ?_
 refine GoC.seq ?_
 refine GoC.region ?_
 refine GoO.pure (ps_indexAddr0N rfl rfl hnk38 rfl) ?_
 refine GoO.pure (ps_loadAg rfl At.p2 At.p2 hnk38 rfl rfl) ?_
 refine GoO.effB (ef_alloc rfl) (fun β40 => ?_)
 refine GoO.eff1 (ef_storeAg rfl rfl At.p0 upd_whole Nat.zero_lt_one rfl) ?_
 refine GoO.nil ?_
 refine GoK.code ?_
 refine GoC.seq ?_
 refine GoC.seq ?_
 refine GoC.region ?_
 refine GoO.pure (ps_fieldAddr rfl rfl) ?_
 refine GoO.pure (ps_load rfl At.p0 At.p0 Nat.zero_lt_one rfl rfl) ?_
 refine GoO.pure (ps_lss rfl rfl rfl) ?_
 refine GoO.pure (ps_move rfl rfl) ?_
 refine GoO.guardE rfl rfl rfl rfl (fun h41 => ?_) (fun h41 => ?_)
 replace H := ite_f h41 H
 refine GoO.pure (ps_fieldAddr rfl rfl) ?_
 refine GoO.guardT rfl rfl rfl ?_
 refine GoO.pure (ps_load rfl At.p0 At.p0 Nat.zero_lt_one rfl rfl) ?_
 refine GoO.guardT rfl rfl rfl ?_
 refine GoO.pure (ps_move rfl rfl) ?_
 refine GoO.guardT rfl rfl rfl ?_
 have hb := bind_l H; clear H
 obtain ⟨r42, e43, H⟩ := hb
 refine GoO.effC (ef_call rfl (Take.nil _) (Take.nil _) (weirref_Numbers_spec ((r7.getD k38 El.d).arcs) ((t.length : Nat) : Int) e43) (LendL.cons (Lend.refl _ _) (LendL.cons (Lend.refl _ _) (LendL.nil))) rfl (weirref_Numbers_I (r42))) (fun rr HH hp => ?_)
 obtain ⟨rfl, rfl⟩ := hp
 refine GoO.guardT rfl rfl rfl ?_
 refine GoO.pure (ps_not rfl rfl) ?_
 refine GoO.pure (ps_pickF rfl rfl rfl) ?_
 refine GoO.nil ?_
 refine GoK.code ?_
 refine GoC.cond rfl (fun h44 => ?_) (fun h44 => ?_)
 replace H := itb_t h44 H
 refine GoC.seq ?_
 refine GoC.region ?_
 refine GoO.pure (ps_assign rfl rfl) ?_
 refine GoO.nil ?_
 refine GoK.code ?_
 obtain rfl := Option.some.inj H
 obtain rfl := Option.some.inj hF34
 obtain rfl := Option.some.inj HK33
 exact GoC.retL (ds := [.v (.bool false)]) Try.results3 (ResL.cons (ResD.tmp rfl) (ResL.nil)) (Take.nil _) ⟨rfl, rfl⟩
 replace H := itb_f h44 H
 refine GoC.skip ?_
 refine GoK.code ?_
 refine GoC.seq ?_
 refine GoC.region ?_
 refine GoO.pure (ps_move rfl rfl) ?_
 refine GoO.pure (ps_fieldAddr rfl rfl) ?_
 refine GoO.pure (ps_load rfl At.p0 At.p0 Nat.zero_lt_one rfl rfl) ?_
 have c45 := ck_l H; replace H := ck_r H
 refine GoO.pure (ps_add rfl rfl rfl c45) ?_
 refine GoO.pure (ps_assign rfl rfl) ?_
 refine GoO.nil ?_
 refine GoK.code ?_
 refine GoC.seq ?_
 refine GoC.region ?_
 refine GoO.pure (ps_fieldAddr rfl rfl) ?_
 refine GoO.pure (ps_load rfl At.p0 At.p0 Nat.zero_lt_one rfl rfl) ?_
 refine GoO.pure (ps_len rfl (by constructor) rfl) ?_
 refine GoO.lenLe (n := ((r7.getD k38 El.d).arcs).length) (x := .tmp 74) rfl (by constructor) sl_lenLe (fun ml46 => ?_)
 refine GoO.pure (ps_move rfl rfl) ?_
 refine GoO.nil ?_
 refine GoK.code ?_
 have hb := bind_l H; clear H
 obtain ⟨g52, hl58, HK49⟩ := hb
 refine GoC.blockJ [(0, slD t), (3, .v (.int .i64 r4)), (5, .own β8 2 0 r7.length), (6, .v (.int .i64 r9)), (7, .v (.int .i64 ((t.length : Nat) : Int))), (8, .v (.int .i64 (x30 + ((r7.getD k38 El.d).amount)))), (53, .own β8 2 0 r7.length), (54, .v (.int .i64 ((r7.length : Nat) : Int))), (55, .v (.int .i64 ((k38 : Nat) : Int)))] [.one β40 32 2 (st1 (nth [.v (.int .i64 ((r7.getD k38 El.d).amount)), slD ((r7.getD k38 El.d).arcs)])), .one β8 32 2 (row r7)] (fun v h => ∃ (Γ48 : Nat → BK), v = [(9, .own β15 1 0 g52.length)] ∧ h = [.one β15 30 1 (gridC Γ48 g52), gridH (α := Int) 3 Γ48 g52]) ?_ ?_
 refine GoC.loopJ [(0, _), (3, _), (5, _), (6, _), (7, _), (8, _), (12, _), (53, _), (54, _), (55, _), (74, _), (75, _)] [.one β40 32 2 (st1 (nth [.v (.int .i64 ((r7.getD k38 El.d).amount)), slD ((r7.getD k38 El.d).arcs)])), .one β8 32 2 (row r7)] (fun mQ v h => ∃ (k53 : Nat) (g47 : (List (List Int))) (Γ48 : Nat → BK), (k53 + mQ = ((r7.getD k38 El.d).arcs).length ∧ forN (weirkeep_DoubleBack_B3 r7 k38) mQ k53 g47 = some g52) ∧ v = [(76, .v (.int .i64 ((k53 : Nat) : Int))), (9, .own β15 1 0 g47.length)] ∧ h = [.one β15 30 1 (gridC Γ48 g47), gridH (α := Int) 3 Γ48 g47]) (((r7.getD k38 El.d).arcs).length) ⟨_, _, Γ32, ⟨by omega, hl58⟩, rfl, rfl⟩ (EnvD.eq rfl (EnvD.cons rfl (DLe.len (by first | rfl | omega | (simp only [row_len, gridC_len, rowO_len] <;> first | rfl | omega))) (EnvD.eq rfl (EnvD.eq rfl (EnvD.eq rfl (EnvD.eq rfl (EnvD.eq rfl (EnvD.eq rfl (EnvD.eq rfl (EnvD.eq rfl (EnvD.eq rfl (EnvD.eq rfl (EnvD.eq rfl (EnvD.eq rfl (EnvD.nil))))))))))))))) (TkD.cons _ _ _ _ _ Rem.p1 (HLe.refl _) (TkD.cons _ _ _ _ _ Rem.p1 (HLe.refl _) (TkD.cons _ _ _ _ _ Rem.p0 (HLe.st ⟨⟨trivial, DLe.refl _⟩, DLe.refl _⟩) (TkD.cons _ _ _ _ _ Rem.p0 (HLe.refl _) (TkD.nil _))))) ?_
 rintro m54 v h ⟨k53, g47, Γ48, ⟨hkk53, hF50⟩, rfl, rfl⟩
 refine GoC.seq ?_
 refine GoC.region ?_
 refine GoO.pure (ps_lss rfl rfl rfl) ?_
 refine GoO.nil ?_
 refine GoK.code ?_
 refine GoC.seq ?_
 refine GoC.condD rfl (fun (hk53 : (k53 : Int) < ((((r7.getD k38 El.d).arcs).length : Nat) : Int)) => ?_) (fun (hk53 : ¬ (k53 : Int) < ((((r7.getD k38 El.d).arcs).length : Nat) : Int)) => ?_)
 obtain ⟨m54', rfl⟩ : ∃ x, m54 = x + 1 := ⟨m54 - 1, by omega⟩
 have hb := bind_l hF50; clear hF50
 obtain ⟨qrm54, H, hF50⟩ := hb
 have hnk53 : k53 < ((r7.getD k38 El.d).arcs).length := by omega
 have hIk53 : InI ((k53 : Int) + 1) := inI_len hk53 ml46
 refine GoC.skip ?_
 refine GoK.code ?_
 refine GoC.seq ?_
 refine GoC.block ?_
 refine GoC.seq ?_
 refine GoC.region ?_
 refine GoO.pure (ps_move rfl rfl) ?_
 refine GoO.pure (ps_indexAddrRN rfl rfl hnk53 rfl) ?_
 refine GoO.pure (ps_loadR rfl hnk53 rfl rfl) ?_
 refine GoO.pure (ps_assign rfl rfl) ?_
 refine GoO.pure (ps_assign rfl rfl) ?_
 refine GoO.nil ?_
 refine GoK.code ?_
 refine GoC.drawQ (.q 0 (.q 1 (.q 2 (.q 3 (.q 4 (.q 5 (.q 6 (.q 7 (.q 8 (.q 9 (.q 10 (.one 11 (.done))))))))))))) 11 follows (by kernel_rfl) ?_
 refine GoQ.qP rfl rfl (ps_move rfl rfl) ?_
 refine GoQ.qP rfl rfl (ps_move rfl rfl) ?_
 have c55 := ck_l H; replace H := ck_r H
 refine GoQ.qP rfl rfl (ps_indexAddr0N rfl rfl c55 rfl) ?_
 refine GoQ.qN rfl (by kernel_rfl) (ps_load rfl At.p0 At.p0 c55 rfl rfl) ?_
 refine GoQ.qP rfl rfl (ps_move rfl rfl) ?_
 have c56 := ck_l H; replace H := ck_r H
 refine GoQ.qP rfl rfl (ps_indexAddr0 rfl rfl c56 rfl) ?_
 refine GoQ.qN rfl (by kernel_rfl) (ps_loadG (α := Int) (xs := g47) rfl rfl At.p1 At.p1 c55 (idx_lt c56) rfl rfl) ?_
 refine GoQ.qP rfl rfl (ps_fieldAddr rfl rfl) ?_
 refine GoQ.qN rfl (by kernel_rfl) (ps_load rfl At.p2 At.p2 Nat.zero_lt_one rfl rfl) ?_
 have c57 := ck_l H; replace H := ck_r H
 refine GoQ.qP rfl rfl (ps_add rfl rfl rfl c57) ?_
 refine GoQ.qP rfl rfl (ps_indexAddr0 rfl rfl c56 rfl) ?_
 refine GoQ.last1 rfl trivial (ef_storeG (α := Int) (xs := g47) (v := (((g47.getD k53 []).getD ((((r7.getD k38 El.d).arcs).getD k53 (0 : Int)).toNat) (0 : Int)) + ((r7.getD k38 El.d).amount))) rfl rfl rfl rfl At.p1 (upd_row1 (v := (((g47.getD k53 []).getD ((((r7.getD k38 El.d).arcs).getD k53 (0 : Int)).toNat) (0 : Int)) + ((r7.getD k38 El.d).amount))) rfl) c55 (idx_lt c56) rfl) (Take.cons _ _ _ _ _ Rem.p1 (Take.nil _)) ?_
 refine GoP.leD (Le.reH At.p0 (HLe.gridW (α := Int) (i := k53) (e := (((r7.getD k38 El.d).arcs).getD k53 (0 : Int)).toNat) (v := (((g47.getD k53 []).getD ((((r7.getD k38 El.d).arcs).getD k53 (0 : Int)).toNat) (0 : Int)) + ((r7.getD k38 El.d).amount))))) ?_
 refine GoP.done ?_
 refine GoK.blk ?_
 refine GoK.code ?_
 refine GoC.region ?_
 refine GoO.pure (ps_add rfl rfl rfl hIk53) ?_
 refine GoO.pure (ps_move rfl rfl) ?_
 refine GoO.nil ?_
 obtain rfl := Option.some.inj H
 exact GoK.againJ m54' (by omega) ⟨_, _, Γ48, ⟨by omega, hF50⟩, rfl, rfl⟩ (EnvD.eq rfl (EnvD.cons rfl (DLe.len (by first | rfl | omega | (simp only [row_len, gridC_len, rowO_len, List.length_set, List.length_cons, List.length_nil, List.length_nil] <;> first | rfl | omega))) (EnvD.eq rfl (EnvD.eq rfl (EnvD.eq rfl (EnvD.eq rfl (EnvD.eq rfl (EnvD.eq rfl (EnvD.eq rfl (EnvD.eq rfl (EnvD.eq rfl (EnvD.eq rfl (EnvD.eq rfl (EnvD.eq rfl (EnvD.nil))))))))))))))) (TkD.cons _ _ _ _ _ Rem.p0 (HLe.refl _) (TkD.cons _ _ _ _ _ Rem.p0 (HLe.refl _) (TkD.cons _ _ _ _ _ Rem.p0 (HLe.st ⟨⟨trivial, DLe.refl _⟩, DLe.refl _⟩) (TkD.cons _ _ _ _ _ Rem.p0 (HLe.refl _) (TkD.nil _)))))
 obtain rfl : m54 = 0 := by omega
 refine GoC.exit rfl ?_
 cases hF50
 exact GoK.meet ⟨Γ48, rfl, rfl⟩ (EnvD.cons rfl (DLe.len (by first | rfl | omega | (simp only [row_len, gridC_len, rowO_len] <;> first | rfl | omega))) (EnvD.eq rfl (EnvD.eq rfl (EnvD.eq rfl (EnvD.eq rfl (EnvD.eq rfl (EnvD.eq rfl (EnvD.eq rfl (EnvD.eq rfl (EnvD.eq rfl (EnvD.nil))))))))))) (TkD.cons _ _ _ _ _ Rem.p0 (HLe.refl _) (TkD.cons _ _ _ _ _ Rem.p0 (HLe.refl _) (TkD.cons _ _ _ _ _ Rem.p0 (HLe.st ⟨⟨trivial, DLe.refl _⟩, DLe.refl _⟩) (TkD.cons _ _ _ _ _ Rem.p0 (HLe.refl _) (TkD.nil _)))))
 rintro v h ⟨Γ48, rfl, rfl⟩
 have H := HK49; clear HK49
 refine GoK.blk ?_
 refine GoK.code ?_
 refine GoC.region ?_
 refine GoO.pure (ps_add rfl rfl rfl hIk38) ?_
 refine GoO.pure (ps_move rfl rfl) ?_
 refine GoO.nil ?_
 obtain rfl := Option.some.inj H
 exact GoK.againJ m39' (by omega) ⟨_, _, _, Γ48, ⟨by omega, hF34⟩, rfl, rfl⟩ (EnvD.eq rfl (EnvD.eq rfl (EnvD.cons rfl (DLe.len (by first | rfl | omega | (simp only [row_len, gridC_len, rowO_len] <;> first | rfl | omega))) (EnvD.eq rfl (EnvD.eq rfl (EnvD.eq rfl (EnvD.eq rfl (EnvD.eq rfl (EnvD.eq rfl (EnvD.eq rfl (EnvD.nil))))))))))) (TkD.cons _ _ _ _ _ Rem.p0 (HLe.refl _) (TkD.cons _ _ _ _ _ Rem.p0 (HLe.refl _) (TkD.cons _ _ _ _ _ Rem.p1 (HLe.refl _) (TkD.nil _))))
 replace H := ite_t h41 H
 refine GoO.guardF rfl rfl rfl rfl ?_
 refine GoO.guardF rfl rfl rfl rfl ?_
 refine GoO.guardF rfl rfl rfl rfl ?_
 refine GoO.guardF rfl rfl rfl rfl ?_
 refine GoO.pure (ps_pickT rfl rfl rfl) ?_
 refine GoO.nil ?_
 refine GoK.code ?_
 refine GoC.condT rfl ?_
 refine GoC.seq ?_
 refine GoC.region ?_
 refine GoO.pure (ps_assign rfl rfl) ?_
 refine GoO.nil ?_
 refine GoK.code ?_
 obtain rfl := Option.some.inj H
 obtain rfl := Option.some.inj hF34
 obtain rfl := Option.some.inj HK33
 exact GoC.retL (ds := [.v (.bool false)]) Try.results3 (ResL.cons (ResD.tmp rfl) (ResL.nil)) (Take.nil _) ⟨rfl, rfl⟩
 obtain rfl : m39 = 0 := by omega
 refine GoC.exit rfl ?_
 cases hF34
 exact GoK.meet ⟨_, _, Γ32, rfl, rfl, rfl⟩ (EnvD.eq rfl (EnvD.cons rfl (DLe.len (by first | rfl | omega | (simp only [row_len, gridC_len, rowO_len] <;> first | rfl | omega))) (EnvD.eq rfl (EnvD.eq rfl (EnvD.eq rfl (EnvD.eq rfl (EnvD.eq rfl (EnvD.nil)))))))) (TkD.cons _ _ _ _ _ Rem.p0 (HLe.refl _) (TkD.cons _ _ _ _ _ Rem.p0 (HLe.refl _) (TkD.cons _ _ _ _ _ Rem.p0 (HLe.refl _) (TkD.nil _))))
 rintro v h ⟨x36, g37, Γ32, rfl, rfl, rfl⟩
 have H := HK33; clear HK33
 refine GoK.code ?_
 refine GoC.seq ?_
 refine GoC.seq ?_
 refine GoC.region ?_
 refine GoO.pure (ps_move rfl rfl) ?_
 refine GoO.pure (ps_len rfl (by constructor) rfl) ?_
 refine GoO.pure (ps_move rfl rfl) ?_
 refine GoO.nil ?_
 refine GoK.code ?_
 have hb := bind_l H; clear H
 obtain ⟨q62, hl69, HK60⟩ := hb
 refine GoC.blockJ [(3, .v (.int .i64 r4)), (5, .own β8 2 0 r7.length), (6, .v (.int .i64 r9)), (7, .v (.int .i64 ((t.length : Nat) : Int))), (8, .v (.int .i64 x36))] [.one β15 30 1 (gridC Γ32 g37), gridH (α := Int) 3 Γ32 g37, .one β8 32 2 (row r7)] (fun v h => q62 = .go () ∧ v = [] ∧ h = []) ?_ ?_
 refine GoC.loopJ [(0, _), (3, _), (5, _), (6, _), (7, _), (8, _), (9, _), (95, _)] [.one β15 30 1 (gridC Γ32 g37), gridH (α := Int) 3 Γ32 g37, .one β8 32 2 (row r7)] (fun mQ v h => ∃ (k63 : Nat), (k63 + mQ = t.length ∧ forC (weirkeep_DoubleBack_B4 t g37) mQ k63 () = some q62) ∧ v = [(96, .v (.int .i64 ((k63 : Nat) : Int)))] ∧ h = []) t.length ⟨_, ⟨by omega, hl69⟩, rfl, rfl⟩ (EnvD.eq rfl (EnvD.eq rfl (EnvD.eq rfl (EnvD.eq rfl (EnvD.eq rfl (EnvD.eq rfl (EnvD.eq rfl (EnvD.eq rfl (EnvD.eq rfl (EnvD.nil)))))))))) (TkD.cons _ _ _ _ _ Rem.p0 (HLe.refl _) (TkD.cons _ _ _ _ _ Rem.p0 (HLe.refl _) (TkD.cons _ _ _ _ _ Rem.p0 (HLe.refl _) (TkD.nil _)))) ?_
 rintro m64 v h ⟨k63, ⟨hkk63, hF61⟩, rfl, rfl⟩
 refine GoC.seq ?_
 refine GoC.region ?_
 refine GoO.pure (ps_lss rfl rfl rfl) ?_
 refine GoO.nil ?_
 refine GoK.code ?_
 refine GoC.seq ?_
 refine GoC.condD rfl (fun (hk63 : (k63 : Int) < ((t.length : Nat) : Int)) => ?_) (fun (hk63 : ¬ (k63 : Int) < ((t.length : Nat) : Int)) => ?_)
 obtain ⟨m64', rfl⟩ : ∃ x, m64 = x + 1 := ⟨m64 - 1, by omega⟩
 have hb := bind_l hF61; clear hF61
 obtain ⟨qrm64, H, hF61⟩ := hb
 have hnk63 : k63 < t.length := by omega
 have hIk63 : InI ((k63 : Int) + 1) := inI_len hk63 ml14
 refine GoC.skip ?_
 refine GoK.code ?_
 refine GoC.seq ?_
 refine GoC.block ?_
 refine GoC.seq ?_
 refine GoC.region ?_
 refine GoO.pure (ps_move rfl rfl) ?_
 refine GoO.pure (ps_assign rfl rfl) ?_
 refine GoO.nil ?_
 refine GoK.code ?_
 refine GoC.seq ?_
 refine GoC.drawA (.q 0 (.q 1 (.q 2 (.q 3 (.q 4 (.q 5 (.q 6 (.q 7 (.one 8 (.q 9 (.done))))))))))) follows (by kernel_rfl) ?_
 refine GoP.qN rfl (ps_move rfl rfl) ?_
 refine GoP.qN rfl (ps_move rfl rfl) ?_
 have c65 := ck_l H; replace H := ck_r H
 refine GoP.qN rfl (ps_indexAddr0N rfl rfl c65 rfl) ?_
 refine GoP.qN rfl (ps_load rfl At.p0 At.p0 c65 rfl rfl) ?_
 refine GoP.qN rfl (ps_move rfl rfl) ?_
 refine GoP.qN rfl (ps_move rfl rfl) ?_
 refine GoP.qN rfl (ps_indexAddrRN rfl rfl hnk63 rfl) ?_
 refine GoP.qN rfl (ps_loadR rfl hnk63 rfl rfl) ?_
 have hb := bind_l H; clear H
 obtain ⟨r66, e67, H⟩ := hb
 refine GoP.oneC rfl trivial (ef_call rfl (Take.nil _) (Take.cons _ _ _ _ _ Rem.p1 (Take.nil _)) (slices_Equal_int_spec (g37.getD k63 []) (t.getD k63 []) e67) (LendL.cons (Lend.gridRow (α := Int) (xs := g37) (i := k63) At.p0 c65 (by first | rfl | omega | (simp only [subl_length, cpl_length, List.length_set, List.length_append, List.length_cons, List.length_nil, List.length_replicate, row_len]; omega) | (simp only [subl_length, cpl_length, List.length_set, List.length_append, List.length_cons, List.length_nil, List.length_replicate, row_len]; done) | simp) rfl) (LendL.cons (Lend.refl _ _) (LendL.nil))) rfl (slices_Equal_int_I (r66))) (Take.cons _ _ _ _ _ Rem.p0 (Take.cons _ _ _ _ _ Rem.p0 (Take.cons _ _ _ _ _ Rem.p0 (Take.nil _)))) (fun rr HH hp => ?_)
 obtain ⟨rfl, rfl⟩ := hp
 refine GoP.qN rfl (ps_not rfl rfl) ?_
 refine GoP.done ?_
 refine GoK.code ?_
 refine GoC.cond rfl (fun h68 => ?_) (fun h68 => ?_)
 replace H := itb_t h68 H
 refine GoC.seq ?_
 refine GoC.region ?_
 refine GoO.pure (ps_assign rfl rfl) ?_
 refine GoO.nil ?_
 refine GoK.code ?_
 obtain rfl := Option.some.inj H
 obtain rfl := Option.some.inj hF61
 obtain rfl := Option.some.inj HK60
 exact GoC.retL (ds := [.v (.bool false)]) Try.results3 (ResL.cons (ResD.tmp rfl) (ResL.nil)) (Take.nil _) ⟨rfl, rfl⟩
 replace H := itb_f h68 H
 refine GoC.skip ?_
 refine GoK.blk ?_
 refine GoK.code ?_
 refine GoC.region ?_
 refine GoO.pure (ps_add rfl rfl rfl hIk63) ?_
 refine GoO.pure (ps_move rfl rfl) ?_
 refine GoO.nil ?_
 obtain rfl := Option.some.inj H
 exact GoK.againJ m64' (by omega) ⟨_, ⟨by omega, hF61⟩, rfl, rfl⟩ (EnvD.eq rfl (EnvD.eq rfl (EnvD.eq rfl (EnvD.eq rfl (EnvD.eq rfl (EnvD.eq rfl (EnvD.eq rfl (EnvD.eq rfl (EnvD.eq rfl (EnvD.nil)))))))))) (TkD.cons _ _ _ _ _ Rem.p0 (HLe.refl _) (TkD.cons _ _ _ _ _ Rem.p0 (HLe.refl _) (TkD.cons _ _ _ _ _ Rem.p0 (HLe.refl _) (TkD.nil _))))
 obtain rfl : m64 = 0 := by omega
 refine GoC.exit rfl ?_
 cases hF61
 exact GoK.meet ⟨rfl, rfl, rfl⟩ (EnvD.eq rfl (EnvD.eq rfl (EnvD.eq rfl (EnvD.eq rfl (EnvD.eq rfl (EnvD.nil)))))) (TkD.cons _ _ _ _ _ Rem.p0 (HLe.refl _) (TkD.cons _ _ _ _ _ Rem.p0 (HLe.refl _) (TkD.cons _ _ _ _ _ Rem.p0 (HLe.refl _) (TkD.nil _))))
 rintro v h ⟨rfl, rfl, rfl⟩
 have H := HK60; clear HK60
 refine GoK.code ?_
 refine GoC.seq ?_
 refine GoC.region ?_
 refine GoO.pure (ps_move rfl rfl) ?_
 refine GoO.pure (ps_eql rfl rfl rfl) ?_
 refine GoO.pure (ps_move rfl rfl) ?_
 refine GoO.guardD rfl rfl rfl rfl (fun h70 => ?_) (fun h70 => ?_)
 replace H := ite_t h70 H
 refine GoO.pure (ps_move rfl rfl) ?_
 refine GoO.guardT rfl rfl rfl ?_
 refine GoO.pure (ps_move rfl rfl) ?_
 refine GoO.guardT rfl rfl rfl ?_
 refine GoO.pure (ps_eql rfl rfl rfl) ?_
 refine GoO.pure (ps_pickT rfl rfl rfl) ?_
 refine GoO.pure (ps_move rfl rfl) ?_
 refine GoO.guardD rfl rfl rfl rfl (fun h71 => ?_) (fun h71 => ?_)
 replace H := ite_t h71 H
 refine GoO.pure (ps_move rfl rfl) ?_
 refine GoO.guardT rfl rfl rfl ?_
 refine GoO.pure (ps_len rfl (by constructor) rfl) ?_
 refine GoO.guardT rfl rfl rfl ?_
 refine GoO.pure (ps_move rfl rfl) ?_
 refine GoO.guardT rfl rfl rfl ?_
 have c72 := ck_l H; replace H := ck_r H
 refine GoO.pure (ps_sub rfl rfl rfl c72) ?_
 refine GoO.guardT rfl rfl rfl ?_
 refine GoO.pure (ps_move rfl rfl) ?_
 refine GoO.guardT rfl rfl rfl ?_
 refine GoO.pure (ps_sub rfl rfl rfl c72) ?_
 refine GoO.guardT rfl rfl rfl ?_
 have c73 := ck_l H; replace H := ck_r H
 refine GoO.pure (ps_mul rfl rfl rfl c73) ?_
 refine GoO.guardT rfl rfl rfl ?_
 have c74 := ck_l H; replace H := ck_r H
 refine GoO.pure (ps_add rfl rfl rfl c74) ?_
 refine GoO.guardT rfl rfl rfl ?_
 refine GoO.pure (ps_leq rfl rfl rfl) ?_
 refine GoO.pure (ps_pickT rfl rfl rfl) ?_
 refine GoO.pure (ps_assign rfl rfl) ?_
 refine GoO.nil ?_
 refine GoK.code ?_
 obtain rfl := Option.some.inj H
 exact GoC.retL (ds := [.v (.bool (decide (((r7.length : Nat) : Int) ≤ (((((t.length : Nat) : Int) - 1) * (((t.length : Nat) : Int) - 1)) + 1))))]) Try.results3 (ResL.cons (ResD.tmp rfl) (ResL.nil)) (Take.nil _) ⟨rfl, rfl⟩
 replace H := ite_f h71 H
 refine GoO.guardF rfl rfl rfl rfl ?_
 refine GoO.guardF rfl rfl rfl rfl ?_
 refine GoO.guardF rfl rfl rfl rfl ?_
 refine GoO.guardF rfl rfl rfl rfl ?_
 refine GoO.guardF rfl rfl rfl rfl ?_
 refine GoO.guardF rfl rfl rfl rfl ?_
 refine GoO.guardF rfl rfl rfl rfl ?_
 refine GoO.guardF rfl rfl rfl rfl ?_
 refine GoO.pure (ps_pickF rfl rfl rfl) ?_
 refine GoO.pure (ps_assign rfl rfl) ?_
 refine GoO.nil ?_
 refine GoK.code ?_
 obtain rfl := Option.some.inj H
 exact GoC.retL (ds := [.v (.bool false)]) Try.results3 (ResL.cons (ResD.tmp rfl) (ResL.nil)) (Take.nil _) ⟨rfl, rfl⟩
 replace H := ite_f h70 H
 refine GoO.guardF rfl rfl rfl rfl ?_
 refine GoO.guardF rfl rfl rfl rfl ?_
 refine GoO.pure (ps_pickF rfl rfl rfl) ?_
 refine GoO.pure (ps_move rfl rfl) ?_
 refine GoO.guardF rfl rfl rfl rfl ?_
 refine GoO.guardF rfl rfl rfl rfl ?_
 refine GoO.guardF rfl rfl rfl rfl ?_
 refine GoO.guardF rfl rfl rfl rfl ?_
 refine GoO.guardF rfl rfl rfl rfl ?_
 refine GoO.guardF rfl rfl rfl rfl ?_
 refine GoO.guardF rfl rfl rfl rfl ?_
 refine GoO.guardF rfl rfl rfl rfl ?_
 refine GoO.guardF rfl rfl rfl rfl ?_
 refine GoO.pure (ps_pickF rfl rfl rfl) ?_
 refine GoO.pure (ps_assign rfl rfl) ?_
 refine GoO.nil ?_
 refine GoK.code ?_
 obtain rfl := Option.some.inj H
 exact GoC.retL (ds := [.v (.bool false)]) Try.results3 (ResL.cons (ResD.tmp rfl) (ResL.nil)) (Take.nil _) ⟨rfl, rfl⟩

end Go.Proofs.Ytmdpjhclgofbfaa
