/- The functions weirkeep.AssignMoves, told as plain functions, and that the code does as they say. -/
import Derived.Test.YtgbdlcbkbdddcaaTys
import Derived.Test.YtgbdlcbkbdddcaaDat
import Derived.Test.YtgbdlcbkbdddcaaGassign
import Derived.Test.YtgbdlcbkbdddcaaGkeep
import Derived.Test.YtgbdlcbkbdddcaaGref
import Derived.Test.YtgbdlcbkbdddcaaGslices
namespace Go.Proofs.Ytgbdlcbkbdddcaa
open Go Go.Proofs.Ytgbdlcbkbdddcaa.Sx
set_option linter.unusedVariables false
set_option linter.unusedSimpArgs false
def weirkeep_AssignMoves_B2 (gain : (List (List Int))) (k36 : Nat) : Nat → (List (List Int)) → Option ((List (List Int))) := fun k46 g40 =>
 ck (k36 < g40.length) <|
 ck (k36 < (gain.getD k46 []).length) <|
 ck ((g40.getD k36 []).length + 1 ≤ 17592186044416) <|
 some (g40.set k36 ((g40.getD k36 []) ++ ([((gain.getD k46 []).getD k36 (0 : Int))] : List Int)))
def weirkeep_AssignMoves_B1 (gain : (List (List Int))) (r14 : Int) : Nat → ((List Int) × (List (List Int))) → Option ((List Int) × (List (List Int))) := fun k36 (l28, g29) =>
 ck (k36 < l28.length) <|
 ck (InI ((l28.getD k36 (0 : Int)) + r14)) <|
 (forN (weirkeep_AssignMoves_B2 gain k36) gain.length 0 g29).bind fun g45 =>
 some ((l28.set k36 ((l28.getD k36 (0 : Int)) + r14)), g45)
def weirkeep_AssignMoves_F (gain : (List (List Int))) (i : Int) (by_ : Int) : Option (Bool) :=
 (weirkeep_assigns_F).bind fun r1 =>
 if (!r1) = true then
  some false
 else
  (assign_Best_F gain).bind fun (r4, r6, r7) =>
  if r7 ≠ 0 then
   some (decide (r6 = 0))
  else
   if ((gain.length : Nat) : Int) = 0 then
    some (decide (r6 = 0))
   else
    (weirref_Rest_F i ((gain.length : Nat) : Int)).bind fun r12 =>
    (weirref_Rest_F by_ 50).bind fun r14 =>
    (slices_Clone_intL_F gain).bind fun r16 =>
    ck (0 ≤ ((gain.length : Nat) : Int) ∧ ((gain.length : Nat) : Int) ≤ 10000000000) <|
    ck (0 ≤ r12 ∧ r12 < ((gain.length : Nat) : Int)) <|
    (slices_Clone_int_F (gain.getD r12.toNat [])).bind fun r24 =>
    ck (0 ≤ r12 ∧ r12 < ((r16.length : Nat) : Int)) <|
    (forN (weirkeep_AssignMoves_B1 gain r14) gain.length 0 (r24, (List.replicate (((gain.length : Nat) : Int).toNat) ([] : List Int)))).bind fun (l34, g35) =>
    (assign_Best_F (r16.set r12.toNat l34)).bind fun (r55, r57, r58) =>
    (assign_Best_F g35).bind fun (r60, r62, r63) =>
    if r58 ≠ 0 then
     if r63 = 0 then
      some (decide (r62 = r6))
     else
      some false
    else
     ck (InI (r6 + r14)) <|
     if r57 = (r6 + r14) then
      if r63 = 0 then
       some (decide (r62 = r6))
      else
       some false
     else
      some false
def weirkeep_AssignMoves_P (out : Bool) (d : D) (H : List HL) : Prop := d = .v (.bool out) ∧ H = []
theorem weirkeep_AssignMoves_I (out : Bool) : IndepP (weirkeep_AssignMoves_P out) := IndepP.of (by rintro _ _ ⟨rfl, rfl⟩; exact ⟨inferInstance, inferInstance⟩)
set_option maxRecDepth 100000 in
set_option maxHeartbeats 4000000 in
theorem weirkeep_AssignMoves_spec (gain : (List (List Int))) (i : Int) (by_ : Int) {out : Bool} (H : weirkeep_AssignMoves_F gain i by_ = some out) : Does Try.prog 14 [slD gain, .v (.int .i64 i), .v (.int .i64 by_)] [] (weirkeep_AssignMoves_P out) := by
 unfold weirkeep_AssignMoves_F at H
 refine Does.intro Try.func14 rfl Try.ntmps14 rfl fun w0 I0 => ?_
 refine GoC.seq ?_
 refine GoC.region ?_
 refine GoO.pure (ps_assign rfl rfl) ?_
 refine GoO.nil ?_
 refine GoK.code ?_
 refine GoC.seq ?_
 refine GoC.seq ?_
 refine GoC.region ?_
 have hb := bind_l H; clear H
 obtain ⟨r1, e2, H⟩ := hb
 refine GoO.effC (ef_call rfl (Take.nil _) (Take.nil _) (weirkeep_assigns_spec e2) (LendL.nil) rfl (weirkeep_assigns_I (r1))) (fun rr HH hp => ?_)
 obtain ⟨rfl, rfl⟩ := hp
 refine GoO.pure (ps_not rfl rfl) ?_
 refine GoO.nil ?_
 refine GoK.code ?_
 refine GoC.cond rfl (fun h3 => ?_) (fun h3 => ?_)
 replace H := itb_t h3 H
 refine GoC.seq ?_
 refine GoC.region ?_
 refine GoO.pure (ps_assign rfl rfl) ?_
 refine GoO.nil ?_
 refine GoK.code ?_
 obtain rfl := Option.some.inj H
 exact GoC.retL (ds := [.v (.bool false)]) Try.results14 (ResL.cons (ResD.tmp rfl) (ResL.nil)) (Take.nil _) ⟨rfl, rfl⟩
 replace H := itb_f h3 H
 refine GoC.skip ?_
 refine GoK.code ?_
 refine GoC.seq ?_
 refine GoC.region ?_
 refine GoO.pure (ps_move rfl rfl) ?_
 have hb := bind_l H; clear H
 obtain ⟨⟨r4, r6, r7⟩, e8, H⟩ := hb
 refine GoO.effC (ef_call rfl (Take.nil _) (Take.nil _) (assign_Best_spec gain e8) (LendL.cons (Lend.refl _ _) (LendL.nil)) rfl (assign_Best_I (r4, r6, r7))) (fun rr HH hp => ?_)
 obtain ⟨β5, rfl, rfl⟩ := hp
 refine GoO.pure (ps_move rfl rfl) ?_
 refine GoO.pure (ps_extract rfl rfl rfl) ?_
 refine GoO.pure (ps_extract rfl rfl rfl) ?_
 refine GoO.pure (ps_extract rfl rfl rfl) ?_
 refine GoO.pure (ps_assign rfl rfl) ?_
 refine GoO.pure (ps_assign rfl rfl) ?_
 refine GoO.pure (ps_assign rfl rfl) ?_
 refine GoO.nil ?_
 refine GoK.code ?_
 refine GoC.seq ?_
 refine GoC.seq ?_
 refine GoC.region ?_
 refine GoO.pure (ps_move rfl rfl) ?_
 refine GoO.pure (ps_neq rfl rfl rfl) ?_
 refine GoO.pure (ps_move rfl rfl) ?_
 refine GoO.guardE rfl rfl rfl rfl (fun h9 => ?_) (fun h9 => ?_)
 replace H := ite_f h9 H
 refine GoO.pure (ps_move rfl rfl) ?_
 refine GoO.guardT rfl rfl rfl ?_
 refine GoO.pure (ps_len rfl (by constructor) rfl) ?_
 refine GoO.lenLe (n := gain.length) (x := .tmp 31) rfl (by constructor) sl_lenLe (fun ml10 => ?_)
 refine GoO.guardT rfl rfl rfl ?_
 refine GoO.pure (ps_eql rfl rfl rfl) ?_
 refine GoO.pure (ps_pickF rfl rfl rfl) ?_
 refine GoO.nil ?_
 refine GoK.code ?_
 refine GoC.condD rfl (fun h11 => ?_) (fun h11 => ?_)
 replace H := ite_t h11 H
 refine GoC.seq ?_
 refine GoC.region ?_
 refine GoO.pure (ps_move rfl rfl) ?_
 refine GoO.pure (ps_eql rfl rfl rfl) ?_
 refine GoO.pure (ps_assign rfl rfl) ?_
 refine GoO.nil ?_
 refine GoK.code ?_
 obtain rfl := Option.some.inj H
 exact GoC.retL (ds := [.v (.bool (decide (r6 = 0)))]) Try.results14 (ResL.cons (ResD.tmp rfl) (ResL.nil)) (Take.nil _) ⟨rfl, rfl⟩
 replace H := ite_f h11 H
 refine GoC.skip ?_
 refine GoK.code ?_
 refine GoC.seq ?_
 refine GoC.region ?_
 refine GoO.pure (ps_move rfl rfl) ?_
 refine GoO.pure (ps_move rfl rfl) ?_
 refine GoO.pure (ps_len rfl (by constructor) rfl) ?_
 have hb := bind_l H; clear H
 obtain ⟨r12, e13, H⟩ := hb
 refine GoO.effC (ef_call rfl (Take.nil _) (Take.nil _) (weirref_Rest_spec i ((gain.length : Nat) : Int) e13) (LendL.cons (Lend.refl _ _) (LendL.cons (Lend.refl _ _) (LendL.nil))) rfl (weirref_Rest_I (r12))) (fun rr HH hp => ?_)
 obtain ⟨rfl, rfl⟩ := hp
 refine GoO.pure (ps_move rfl rfl) ?_
 have hb := bind_l H; clear H
 obtain ⟨r14, e15, H⟩ := hb
 refine GoO.effC (ef_call rfl (Take.nil _) (Take.nil _) (weirref_Rest_spec by_ 50 e15) (LendL.cons (Lend.refl _ _) (LendL.cons (Lend.refl _ _) (LendL.nil))) rfl (weirref_Rest_I (r14))) (fun rr HH hp => ?_)
 obtain ⟨rfl, rfl⟩ := hp
 refine GoO.pure (ps_assign rfl rfl) ?_
 refine GoO.pure (ps_assign rfl rfl) ?_
 refine GoO.nil ?_
 refine GoK.code ?_
 refine GoC.seq ?_
 refine GoC.drawA (.q 0 (.q 2 (.q 3 (.two 1 4 (.q 5 (.one 4 (.q 6 (.done)))) (.one 1 (.q 5 (.q 6 (.done)))))))) follows (by kernel_rfl) ?_
 refine GoP.qN rfl (ps_move rfl rfl) ?_
 refine GoP.qN rfl (ps_move rfl rfl) ?_
 refine GoP.qN rfl (ps_len rfl (by constructor) rfl) ?_
 have hb := bind_l H; clear H
 obtain ⟨r16, e18, H⟩ := hb
 have c20 := ck_l H; replace H := ck_r H
 apply GoP.forkG2
 exact rfl
 exact rfl
 exact trivial
 exact trivial
 exact ef_callK rfl (Take.nil _) (Take.nil _) (slices_Clone_intL_spec gain e18) (LendL.cons (Lend.refl _ _) (LendL.nil)) rfl no_fps
 exact Eff.g (ef_makeZ rfl rfl c20 rfl rfl rfl)
 exact (Take.cons _ _ _ _ _ Rem.p0 (Take.nil _))
 exact (Take.cons _ _ _ _ _ Rem.p0 (Take.nil _))
 intro hQ
 rintro _ ⟨_, _, hp, rfl⟩
 obtain ⟨β17, rfl, rfl⟩ := hp
 refine GoP.qN rfl (ps_assign rfl rfl) ?_
 refine GoP.oneB rfl trivial (ef_makeZ rfl rfl c20 rfl rfl rfl) (Take.cons _ _ _ _ _ Rem.p1 (Take.nil _)) (fun β22 => ?_)
 refine GoP.leD (Le.reH At.p0 (HLe.grid0Z (α := Int) (n := ((gain.length : Nat) : Int).toNat) (fun _ => DLe.nilOwn))) ?_
 refine GoP.leD (Le.grid0 3 Int (((gain.length : Nat) : Int).toNat)) ?_
 refine GoP.qN rfl (ps_assign rfl rfl) ?_
 exact GoP.done (hQ β17 β22)
 intro hQ
 rintro _ ⟨β21, rfl⟩
 refine GoP.leD (Le.reH At.p0 (HLe.grid0Z (α := Int) (n := ((gain.length : Nat) : Int).toNat) (fun _ => DLe.nilOwn))) ?_
 refine GoP.leD (Le.grid0 3 Int (((gain.length : Nat) : Int).toNat)) ?_
 refine GoP.oneCG rfl trivial (ef_callK rfl (Take.nil _) (Take.nil _) (slices_Clone_intL_spec gain e18) (LendL.cons (Lend.refl _ _) (LendL.nil)) rfl no_fps) (Take.cons _ _ _ _ _ Rem.p2 (Take.nil _)) (fun rr HH hp => ?_)
 obtain ⟨β17, rfl, rfl⟩ := hp
 refine GoP.qN rfl (ps_assign rfl rfl) ?_
 refine GoP.qN rfl (ps_assign rfl rfl) ?_
 refine GoP.done (GoK.le ?_ (hQ β17 β21))
 refine Le.ofDW ?_ (TkD.cons _ _ _ _ _ Rem.p1 (HLe.refl _) (TkD.cons _ _ _ _ _ Rem.p1 (HLe.refl _) (TkD.cons _ _ _ _ _ Rem.p0 (HLe.refl _) (TkD.cons _ _ _ _ _ Rem.p0 (HLe.refl _) (TkD.nil _)))))
 repeat (first | exact EnvLeW.nil | refine EnvLeW.cons rfl ?_ | refine EnvLeW.skip rfl ?_)
 intro β17 β22
 refine GoK.code ?_
 refine GoC.seq ?_
 refine GoC.region ?_
 refine GoO.pure (ps_move rfl rfl) ?_
 refine GoO.pure (ps_move rfl rfl) ?_
 refine GoO.pure (ps_move rfl rfl) ?_
 refine GoO.pure (ps_move rfl rfl) ?_
 have c23 := ck_l H; replace H := ck_r H
 refine GoO.pure (ps_indexAddrR rfl rfl c23 rfl) ?_
 refine GoO.pure (ps_loadR rfl (idx_lt c23) rfl rfl) ?_
 have hb := bind_l H; clear H
 obtain ⟨r24, e26, H⟩ := hb
 refine GoO.effC (ef_call rfl (Take.nil _) (Take.nil _) (slices_Clone_int_spec (gain.getD r12.toNat []) e26) (LendL.cons (Lend.refl _ _) (LendL.nil)) rfl (slices_Clone_int_I (r24))) (fun rr HH hp => ?_)
 obtain ⟨β25, rfl, rfl⟩ := hp
 have c27 := ck_l H; replace H := ck_r H
 refine GoO.pure (ps_indexAddr0 rfl rfl c27 rfl) ?_
 refine GoO.eff1 (ef_store rfl rfl rfl At.p3 (upd_rowO (α := Int)) (idx_lt c27) rfl) ?_
 refine GoO.nil ?_
 refine GoK.code ?_
 refine GoC.seq ?_
 refine GoC.seq ?_
 refine GoC.region ?_
 refine GoO.pure (ps_move rfl rfl) ?_
 refine GoO.pure (ps_len rfl (by constructor) rfl) ?_
 refine GoO.pure (ps_move rfl rfl) ?_
 refine GoO.nil ?_
 refine GoK.code ?_
 have hb := bind_l H; clear H
 obtain ⟨⟨l34, g35⟩, hl54, HK31⟩ := hb
 refine GoC.blockJ [(2, .v (.int .i64 r14)), (8, .v (.int .i64 r6))] [.one β5 3 1 (row r4)] (fun v h => ∃ (Γ30 : Nat → BK), v = [(10, .own β17 1 0 r16.length), (11, .own β22 1 0 g35.length)] ∧ h = [.one β25 3 1 (row l34), .one β17 27 1 (rowO r16 r12.toNat (.own β25 1 0 l34.length)), .one β22 27 1 (gridC Γ30 g35), gridH (α := Int) 3 Γ30 g35]) ?_ ?_
 refine GoC.loopJ [(0, _), (1, _), (2, _), (8, _), (57, _)] [.one β5 3 1 (row r4)] (fun mQ v h => ∃ (k36 : Nat) (l28 : (List Int)) (g29 : (List (List Int))) (Γ30 : Nat → BK), (k36 + mQ = gain.length ∧ forN (weirkeep_AssignMoves_B1 gain r14) mQ k36 (l28, g29) = some (l34, g35)) ∧ v = [(58, .v (.int .i64 ((k36 : Nat) : Int))), (10, .own β17 1 0 r16.length), (11, .own β22 1 0 g29.length)] ∧ h = [.one β25 3 1 (row l28), .one β17 27 1 (rowO r16 r12.toNat (.own β25 1 0 l28.length)), .one β22 27 1 (gridC Γ30 g29), gridH (α := Int) 3 Γ30 g29]) gain.length ⟨_, _, _, (fun _ => (⟨0, 0, 0⟩ : BK)), ⟨by omega, hl54⟩, rfl, rfl⟩ (EnvD.eq rfl (EnvD.eq rfl (EnvD.cons rfl (DLe.len (by first | rfl | omega | (simp only [row_len, gridC_len, rowO_len, List.length_cons, List.length_nil, List.length_replicate, List.length_nil] <;> first | rfl | omega))) (EnvD.eq rfl (EnvD.eq rfl (EnvD.eq rfl (EnvD.eq rfl (EnvD.eq rfl (EnvD.nil))))))))) (TkD.cons _ _ _ _ _ Rem.p0 (HLe.refl _) (TkD.cons _ _ _ _ _ Rem.p2 (HLe.rowO (DLe.len (by first | rfl | omega | (simp only [row_len, gridC_len, rowO_len] <;> first | rfl | omega)))) (TkD.cons _ _ _ _ _ Rem.p1 (HLe.refl _) (TkD.cons _ _ _ _ _ Rem.p0 (HLe.refl _) (TkD.cons _ _ _ _ _ Rem.p0 (HLe.refl _) (TkD.nil _)))))) ?_
 rintro m37 v h ⟨k36, l28, g29, Γ30, ⟨hkk36, hF32⟩, rfl, rfl⟩
 refine GoC.seq ?_
 refine GoC.region ?_
 refine GoO.pure (ps_lss rfl rfl rfl) ?_
 refine GoO.nil ?_
 refine GoK.code ?_
 refine GoC.seq ?_
 refine GoC.condD rfl (fun (hk36 : (k36 : Int) < ((gain.length : Nat) : Int)) => ?_) (fun (hk36 : ¬ (k36 : Int) < ((gain.length : Nat) : Int)) => ?_)
 obtain ⟨m37', rfl⟩ : ∃ x, m37 = x + 1 := ⟨m37 - 1, by omega⟩
 have hb := bind_l hF32; clear hF32
 obtain ⟨qrm37, H, hF32⟩ := hb
 have hnk36 : k36 < gain.length := by omega
 have hIk36 : InI ((k36 : Int) + 1) := inI_len hk36 ml10
 refine GoC.skip ?_
 refine GoK.code ?_
 refine GoC.seq ?_
 refine GoC.block ?_
 refine GoC.seq ?_
 refine GoC.region ?_
 refine GoO.pure (ps_move rfl rfl) ?_
 refine GoO.pure (ps_assign rfl rfl) ?_
 refine GoO.nil ?_
 refine GoK.code ?_
 refine GoC.seq ?_
 refine GoC.region ?_
 refine GoO.pure (ps_move rfl rfl) ?_
 refine GoO.pure (ps_move rfl rfl) ?_
 refine GoO.pure (ps_indexAddr0 rfl rfl c27 rfl) ?_
 refine GoO.pure (ps_load rfl At.p1 At.p1 (idx_lt c27) rfl rfl) ?_
 refine GoO.le (Le.re 64 rfl DLe.rowO) ?_
 refine GoO.pure (ps_move rfl rfl) ?_
 have c38 := ck_l H; replace H := ck_r H
 refine GoO.pure (ps_indexAddr0N rfl rfl c38 rfl) ?_
 refine GoO.pure (ps_load rfl At.p0 At.p0 c38 rfl rfl) ?_
 refine GoO.pure (ps_move rfl rfl) ?_
 have c39 := ck_l H; replace H := ck_r H
 refine GoO.pure (ps_add rfl rfl rfl c39) ?_
 refine GoO.pure (ps_indexAddr0N rfl rfl c38 rfl) ?_
 refine GoO.eff1 (ef_store rfl rfl rfl At.p0 (upd_row1 (v := ((l28.getD k36 (0 : Int)) + r14)) rfl) c38 rfl) ?_
 refine GoO.nil ?_
 refine GoK.code ?_
 refine GoC.seq ?_
 refine GoC.region ?_
 refine GoO.pure (ps_move rfl rfl) ?_
 refine GoO.pure (ps_len rfl (by constructor) rfl) ?_
 refine GoO.pure (ps_move rfl rfl) ?_
 refine GoO.nil ?_
 refine GoK.code ?_
 have hb := bind_l H; clear H
 obtain ⟨g45, hl53, HK42⟩ := hb
 refine GoC.blockJ [(0, slD gain), (1, .v (.int .i64 r12)), (2, .v (.int .i64 r14)), (8, .v (.int .i64 r6)), (10, .own β17 1 0 r16.length), (57, .v (.int .i64 ((gain.length : Nat) : Int))), (58, .v (.int .i64 ((k36 : Nat) : Int)))] [.one β25 3 1 (row (l28.set k36 ((l28.getD k36 (0 : Int)) + r14))), .one β17 27 1 (rowO r16 r12.toNat (.own β25 1 0 l28.length)), .one β5 3 1 (row r4)] (fun v h => ∃ (Γ41 : Nat → BK), v = [(11, .own β22 1 0 g45.length)] ∧ h = [.one β22 27 1 (gridC Γ41 g45), gridH (α := Int) 3 Γ41 g45]) ?_ ?_
 refine GoC.loopJ [(0, _), (1, _), (2, _), (8, _), (10, _), (12, _), (57, _), (58, _), (72, _)] [.one β25 3 1 (row (l28.set k36 ((l28.getD k36 (0 : Int)) + r14))), .one β17 27 1 (rowO r16 r12.toNat (.own β25 1 0 l28.length)), .one β5 3 1 (row r4)] (fun mQ v h => ∃ (k46 : Nat) (g40 : (List (List Int))) (Γ41 : Nat → BK), (k46 + mQ = gain.length ∧ forN (weirkeep_AssignMoves_B2 gain k36) mQ k46 g40 = some g45) ∧ v = [(73, .v (.int .i64 ((k46 : Nat) : Int))), (11, .own β22 1 0 g40.length)] ∧ h = [.one β22 27 1 (gridC Γ41 g40), gridH (α := Int) 3 Γ41 g40]) gain.length ⟨_, _, Γ30, ⟨by omega, hl53⟩, rfl, rfl⟩ (EnvD.eq rfl (EnvD.cons rfl (DLe.len (by first | rfl | omega | (simp only [row_len, gridC_len, rowO_len] <;> first | rfl | omega))) (EnvD.eq rfl (EnvD.eq rfl (EnvD.eq rfl (EnvD.eq rfl (EnvD.eq rfl (EnvD.eq rfl (EnvD.eq rfl (EnvD.eq rfl (EnvD.eq rfl (EnvD.nil)))))))))))) (TkD.cons _ _ _ _ _ Rem.p2 (HLe.refl _) (TkD.cons _ _ _ _ _ Rem.p2 (HLe.refl _) (TkD.cons _ _ _ _ _ Rem.p0 (HLe.refl _) (TkD.cons _ _ _ _ _ Rem.p0 (HLe.refl _) (TkD.cons _ _ _ _ _ Rem.p0 (HLe.refl _) (TkD.nil _)))))) ?_
 rintro m47 v h ⟨k46, g40, Γ41, ⟨hkk46, hF43⟩, rfl, rfl⟩
 refine GoC.seq ?_
 refine GoC.region ?_
 refine GoO.pure (ps_lss rfl rfl rfl) ?_
 refine GoO.nil ?_
 refine GoK.code ?_
 refine GoC.seq ?_
 refine GoC.condD rfl (fun (hk46 : (k46 : Int) < ((gain.length : Nat) : Int)) => ?_) (fun (hk46 : ¬ (k46 : Int) < ((gain.length : Nat) : Int)) => ?_)
 obtain ⟨m47', rfl⟩ : ∃ x, m47 = x + 1 := ⟨m47 - 1, by omega⟩
 have hb := bind_l hF43; clear hF43
 obtain ⟨qrm47, H, hF43⟩ := hb
 have hnk46 : k46 < gain.length := by omega
 have hIk46 : InI ((k46 : Int) + 1) := inI_len hk46 ml10
 refine GoC.skip ?_
 refine GoK.code ?_
 refine GoC.seq ?_
 refine GoC.block ?_
 refine GoC.seq ?_
 refine GoC.region ?_
 refine GoO.pure (ps_move rfl rfl) ?_
 refine GoO.pure (ps_assign rfl rfl) ?_
 refine GoO.nil ?_
 refine GoK.code ?_
 refine GoC.drawQ (.q 0 (.q 1 (.q 2 (.q 3 (.q 4 (.q 5 (.q 6 (.q 7 (.q 8 (.q 9 (.q 10 (.q 11 (.q 12 (.one 13 (.one 14 (.q 15 (.one 16 (.done)))))))))))))))))) 14 follows (by kernel_rfl) ?_
 refine GoQ.qP rfl rfl (ps_move rfl rfl) ?_
 refine GoQ.qP rfl rfl (ps_move rfl rfl) ?_
 refine GoQ.qP rfl rfl (ps_move rfl rfl) ?_
 refine GoQ.qP rfl rfl (ps_move rfl rfl) ?_
 have c48 := ck_l H; replace H := ck_r H
 refine GoQ.qP rfl rfl (ps_indexAddr0N rfl rfl c48 rfl) ?_
 refine GoQ.qN rfl (by kernel_rfl) (ps_load rfl At.p0 At.p0 c48 rfl rfl) ?_
 refine GoQ.qP rfl rfl (ps_move rfl rfl) ?_
 refine GoQ.qP rfl rfl (ps_move rfl rfl) ?_
 refine GoQ.qP rfl rfl (ps_indexAddrRN rfl rfl hnk46 rfl) ?_
 refine GoQ.qP rfl rfl (ps_loadR rfl hnk46 rfl rfl) ?_
 refine GoQ.qP rfl rfl (ps_move rfl rfl) ?_
 have c49 := ck_l H; replace H := ck_r H
 refine GoQ.qP rfl rfl (ps_indexAddrRN rfl rfl c49 rfl) ?_
 refine GoQ.qP rfl rfl (ps_loadR rfl c49 rfl rfl) ?_
 refine GoQ.oneB rfl rfl trivial (ef_buildSlice (row ([((gain.getD k46 []).getD k36 (0 : Int))] : List Int)) rfl (Parts.cons _ _ _ _ _ _ _ _ ⟨rfl, rfl⟩ (Part.one _ rfl rfl) rfl rfl (Parts.nil _)) rfl rfl rfl rfl) (Take.cons _ _ _ _ _ Rem.p0 (Take.cons _ _ _ _ _ Rem.p0 (Take.cons _ _ _ _ _ Rem.p0 (Take.cons _ _ _ _ _ Rem.p0 (Take.cons _ _ _ _ _ Rem.p0 (Take.nil _)))))) (fun β50 => ?_)
 refine GoQ.le (Le.takeG (α := Int) (xs := g40) (i := k36) Rem.p2 c48) ?_
 have c52 := ck_l H; replace H := ck_r H
 refine GoQ.lastB rfl trivial (ef_append rfl rfl Rem.p0 (Src.own At.p2 (by first | omega | (simp only [subl_length, cpl_length, List.length_set, List.length_append, List.length_cons, List.length_nil, List.length_replicate, row_len]; omega) | (simp only [subl_length, cpl_length, List.length_set, List.length_append, List.length_cons, List.length_nil, List.length_replicate, row_len]; done))) (cat_row (α := Int) (by first | rfl | omega | (simp only [subl_length, cpl_length, List.length_set, List.length_append, List.length_cons, List.length_nil, List.length_replicate, row_len] <;> first | rfl | omega)) (by first | rfl | omega | (simp only [subl_length, cpl_length, List.length_set, List.length_append, List.length_cons, List.length_nil, List.length_replicate, row_len] <;> first | rfl | omega)) (fun _ _ _ _ => rfl)) (by first | omega | (simp only [subl_length, cpl_length, List.length_set, List.length_append, List.length_cons, List.length_nil, List.length_replicate, row_len]; omega) | (simp only [subl_length, cpl_length, List.length_set, List.length_append, List.length_cons, List.length_nil, List.length_replicate, row_len]; done)) (app_le c52 rfl) rfl rfl rfl) (Take.cons _ _ _ _ _ Rem.p0 (Take.nil _)) (fun β51 => ?_)
 refine GoP.qN rfl (ps_indexAddr0N rfl rfl c48 rfl) ?_
 refine GoP.one1 rfl trivial (ef_store rfl rfl rfl At.p3 (upd_grid (α := Int) (ys := ((g40.getD k36 []) ++ ([((gain.getD k46 []).getD k36 (0 : Int))] : List Int))) rfl (by first | rfl | omega | (simp only [subl_length, cpl_length, List.length_set, List.length_append, List.length_cons, List.length_nil, List.length_replicate, row_len]; omega) | (simp only [subl_length, cpl_length, List.length_set, List.length_append, List.length_cons, List.length_nil, List.length_replicate, row_len]; done) | simp)) c48 rfl) (Take.cons _ _ _ _ _ Rem.p3 (Take.nil _)) ?_
 refine GoP.leD (Le.absorb (α := Int) (B := Γ41) (xs := g40) (ys := ((g40.getD k36 []) ++ ([((gain.getD k46 []).getD k36 (0 : Int))] : List Int))) (i := k36) Rem.p0 Rem.p0 (by simp) (fun _ h => if_neg h) (fun _ h => grid_ne h)) ?_
 refine GoP.done ?_
 refine GoK.blk ?_
 refine GoK.code ?_
 refine GoC.region ?_
 refine GoO.pure (ps_add rfl rfl rfl hIk46) ?_
 refine GoO.pure (ps_move rfl rfl) ?_
 refine GoO.nil ?_
 obtain rfl := Option.some.inj H
 exact GoK.againJ m47' (by omega) ⟨_, _, (updF Γ41 k36 β51), ⟨by omega, hF43⟩, rfl, rfl⟩ (EnvD.eq rfl (EnvD.cons rfl (DLe.len (by first | rfl | omega | (simp only [row_len, gridC_len, rowO_len, List.length_set, List.length_append, List.length_cons, List.length_nil, List.length_nil] <;> first | rfl | omega))) (EnvD.eq rfl (EnvD.eq rfl (EnvD.eq rfl (EnvD.eq rfl (EnvD.eq rfl (EnvD.eq rfl (EnvD.eq rfl (EnvD.eq rfl (EnvD.eq rfl (EnvD.nil)))))))))))) (TkD.cons _ _ _ _ _ Rem.p2 (HLe.refl _) (TkD.cons _ _ _ _ _ Rem.p0 (HLe.refl _) (TkD.cons _ _ _ _ _ Rem.p1 (HLe.refl _) (TkD.cons _ _ _ _ _ Rem.p1 (HLe.refl _) (TkD.cons _ _ _ _ _ Rem.p1 (HLe.refl _) (TkD.nil _))))))
 obtain rfl : m47 = 0 := by omega
 refine GoC.exit rfl ?_
 cases hF43
 exact GoK.meet ⟨Γ41, rfl, rfl⟩ (EnvD.cons rfl (DLe.len (by first | rfl | omega | (simp only [row_len, gridC_len, rowO_len] <;> first | rfl | omega))) (EnvD.eq rfl (EnvD.eq rfl (EnvD.eq rfl (EnvD.eq rfl (EnvD.eq rfl (EnvD.eq rfl (EnvD.eq rfl (EnvD.nil))))))))) (TkD.cons _ _ _ _ _ Rem.p0 (HLe.refl _) (TkD.cons _ _ _ _ _ Rem.p0 (HLe.refl _) (TkD.cons _ _ _ _ _ Rem.p0 (HLe.refl _) (TkD.cons _ _ _ _ _ Rem.p0 (HLe.refl _) (TkD.cons _ _ _ _ _ Rem.p0 (HLe.refl _) (TkD.nil _))))))
 rintro v h ⟨Γ41, rfl, rfl⟩
 have H := HK42; clear HK42
 refine GoK.blk ?_
 refine GoK.code ?_
 refine GoC.region ?_
 refine GoO.pure (ps_add rfl rfl rfl hIk36) ?_
 refine GoO.pure (ps_move rfl rfl) ?_
 refine GoO.nil ?_
 obtain rfl := Option.some.inj H
 exact GoK.againJ m37' (by omega) ⟨_, _, _, Γ41, ⟨by omega, hF32⟩, rfl, rfl⟩ (EnvD.eq rfl (EnvD.eq rfl (EnvD.cons rfl (DLe.len (by first | rfl | omega | (simp only [row_len, gridC_len, rowO_len] <;> first | rfl | omega))) (EnvD.eq rfl (EnvD.eq rfl (EnvD.eq rfl (EnvD.eq rfl (EnvD.eq rfl (EnvD.nil))))))))) (TkD.cons _ _ _ _ _ Rem.p2 (HLe.refl _) (TkD.cons _ _ _ _ _ Rem.p2 (HLe.rowO (DLe.len (by first | rfl | omega | (simp only [row_len, gridC_len, rowO_len, List.length_set] <;> first | rfl | omega)))) (TkD.cons _ _ _ _ _ Rem.p0 (HLe.refl _) (TkD.cons _ _ _ _ _ Rem.p0 (HLe.refl _) (TkD.cons _ _ _ _ _ Rem.p0 (HLe.refl _) (TkD.nil _))))))
 obtain rfl : m37 = 0 := by omega
 refine GoC.exit rfl ?_
 cases hF32
 exact GoK.meet ⟨Γ30, rfl, rfl⟩ (EnvD.eq rfl (EnvD.cons rfl (DLe.len (by first | rfl | omega | (simp only [row_len, gridC_len, rowO_len] <;> first | rfl | omega))) (EnvD.eq rfl (EnvD.eq rfl (EnvD.nil))))) (TkD.cons _ _ _ _ _ Rem.p0 (HLe.refl _) (TkD.cons _ _ _ _ _ Rem.p0 (HLe.rowO (DLe.len (by first | rfl | omega | (simp only [row_len, gridC_len, rowO_len] <;> first | rfl | omega)))) (TkD.cons _ _ _ _ _ Rem.p0 (HLe.refl _) (TkD.cons _ _ _ _ _ Rem.p0 (HLe.refl _) (TkD.cons _ _ _ _ _ Rem.p0 (HLe.refl _) (TkD.nil _))))))
 rintro v h ⟨Γ30, rfl, rfl⟩
 have H := HK31; clear HK31
 refine GoK.code ?_
 refine GoC.seq ?_
 refine GoC.region ?_
 refine GoO.pure (ps_move rfl rfl) ?_
 have hb := bind_l H; clear H
 obtain ⟨⟨r55, r57, r58⟩, e59, H⟩ := hb
 refine GoO.effC (ef_call rfl (Take.nil _) (Take.cons _ _ _ _ _ Rem.p1 (Take.cons _ _ _ _ _ Rem.p0 (Take.nil _))) (assign_Best_spec (r16.set r12.toNat l34) e59) (LendL.cons (Lend.rowO (α := Int) (xs := r16) (ys := l34) At.p0 At.p1 rfl (by first | rfl | omega | (simp only [subl_length, cpl_length, List.length_set, List.length_append, List.length_cons, List.length_nil, List.length_replicate, row_len]; omega) | (simp only [subl_length, cpl_length, List.length_set, List.length_append, List.length_cons, List.length_nil, List.length_replicate, row_len]; done) | simp) (by first | rfl | omega | (simp only [subl_length, cpl_length, List.length_set, List.length_append, List.length_cons, List.length_nil, List.length_replicate, row_len]; omega) | (simp only [subl_length, cpl_length, List.length_set, List.length_append, List.length_cons, List.length_nil, List.length_replicate, row_len]; done) | simp)) (LendL.nil)) rfl (assign_Best_I (r55, r57, r58))) (fun rr HH hp => ?_)
 obtain ⟨β56, rfl, rfl⟩ := hp
 refine GoO.pure (ps_move rfl rfl) ?_
 refine GoO.pure (ps_extract rfl rfl rfl) ?_
 refine GoO.pure (ps_extract rfl rfl rfl) ?_
 refine GoO.pure (ps_extract rfl rfl rfl) ?_
 refine GoO.pure (ps_assign rfl rfl) ?_
 refine GoO.pure (ps_assign rfl rfl) ?_
 refine GoO.pure (ps_assign rfl rfl) ?_
 refine GoO.nil ?_
 refine GoK.code ?_
 refine GoC.seq ?_
 refine GoC.region ?_
 refine GoO.pure (ps_move rfl rfl) ?_
 have hb := bind_l H; clear H
 obtain ⟨⟨r60, r62, r63⟩, e64, H⟩ := hb
 refine GoO.effC (ef_call rfl (Take.nil _) (Take.cons _ _ _ _ _ Rem.p3 (Take.cons _ _ _ _ _ Rem.p3 (Take.nil _))) (assign_Best_spec g35 e64) (LendL.cons (Lend.grid (α := Int) (xs := g35) At.p0 At.p1 (by first | rfl | omega | (simp only [subl_length, cpl_length, List.length_set, List.length_append, List.length_cons, List.length_nil, List.length_replicate, row_len]; omega) | (simp only [subl_length, cpl_length, List.length_set, List.length_append, List.length_cons, List.length_nil, List.length_replicate, row_len]; done) | simp)) (LendL.nil)) rfl (assign_Best_I (r60, r62, r63))) (fun rr HH hp => ?_)
 obtain ⟨β61, rfl, rfl⟩ := hp
 refine GoO.pure (ps_move rfl rfl) ?_
 refine GoO.pure (ps_extract rfl rfl rfl) ?_
 refine GoO.pure (ps_extract rfl rfl rfl) ?_
 refine GoO.pure (ps_extract rfl rfl rfl) ?_
 refine GoO.pure (ps_assign rfl rfl) ?_
 refine GoO.pure (ps_assign rfl rfl) ?_
 refine GoO.pure (ps_assign rfl rfl) ?_
 refine GoO.nil ?_
 refine GoK.code ?_
 refine GoC.seq ?_
 refine GoC.region ?_
 refine GoO.pure (ps_move rfl rfl) ?_
 refine GoO.pure (ps_neq rfl rfl rfl) ?_
 refine GoO.pure (ps_move rfl rfl) ?_
 refine GoO.guardE rfl rfl rfl rfl (fun h65 => ?_) (fun h65 => ?_)
 replace H := ite_f h65 H
 refine GoO.pure (ps_move rfl rfl) ?_
 refine GoO.guardT rfl rfl rfl ?_
 refine GoO.pure (ps_move rfl rfl) ?_
 refine GoO.guardT rfl rfl rfl ?_
 refine GoO.pure (ps_move rfl rfl) ?_
 refine GoO.guardT rfl rfl rfl ?_
 have c66 := ck_l H; replace H := ck_r H
 refine GoO.pure (ps_add rfl rfl rfl c66) ?_
 refine GoO.guardT rfl rfl rfl ?_
 refine GoO.pure (ps_eql rfl rfl rfl) ?_
 refine GoO.pure (ps_pickF rfl rfl rfl) ?_
 refine GoO.pure (ps_move rfl rfl) ?_
 refine GoO.guardD rfl rfl rfl rfl (fun h67 => ?_) (fun h67 => ?_)
 replace H := ite_t h67 H
 refine GoO.pure (ps_move rfl rfl) ?_
 refine GoO.guardT rfl rfl rfl ?_
 refine GoO.pure (ps_eql rfl rfl rfl) ?_
 refine GoO.pure (ps_pickT rfl rfl rfl) ?_
 refine GoO.pure (ps_move rfl rfl) ?_
 refine GoO.guardD rfl rfl rfl rfl (fun h68 => ?_) (fun h68 => ?_)
 replace H := ite_t h68 H
 refine GoO.pure (ps_move rfl rfl) ?_
 refine GoO.guardT rfl rfl rfl ?_
 refine GoO.pure (ps_move rfl rfl) ?_
 refine GoO.guardT rfl rfl rfl ?_
 refine GoO.pure (ps_eql rfl rfl rfl) ?_
 refine GoO.pure (ps_pickT rfl rfl rfl) ?_
 refine GoO.pure (ps_assign rfl rfl) ?_
 refine GoO.nil ?_
 refine GoK.code ?_
 obtain rfl := Option.some.inj H
 exact GoC.retL (ds := [.v (.bool (decide (r62 = r6)))]) Try.results14 (ResL.cons (ResD.tmp rfl) (ResL.nil)) (Take.nil _) ⟨rfl, rfl⟩
 replace H := ite_f h68 H
 refine GoO.guardF rfl rfl rfl rfl ?_
 refine GoO.guardF rfl rfl rfl rfl ?_
 refine GoO.pure (ps_pickF rfl rfl rfl) ?_
 refine GoO.pure (ps_assign rfl rfl) ?_
 refine GoO.nil ?_
 refine GoK.code ?_
 obtain rfl := Option.some.inj H
 exact GoC.retL (ds := [.v (.bool false)]) Try.results14 (ResL.cons (ResD.tmp rfl) (ResL.nil)) (Take.nil _) ⟨rfl, rfl⟩
 replace H := ite_f h67 H
 refine GoO.guardF rfl rfl rfl rfl ?_
 refine GoO.pure (ps_pickF rfl rfl rfl) ?_
 refine GoO.pure (ps_move rfl rfl) ?_
 refine GoO.guardF rfl rfl rfl rfl ?_
 refine GoO.guardF rfl rfl rfl rfl ?_
 refine GoO.guardF rfl rfl rfl rfl ?_
 refine GoO.pure (ps_pickF rfl rfl rfl) ?_
 refine GoO.pure (ps_assign rfl rfl) ?_
 refine GoO.nil ?_
 refine GoK.code ?_
 obtain rfl := Option.some.inj H
 exact GoC.retL (ds := [.v (.bool false)]) Try.results14 (ResL.cons (ResD.tmp rfl) (ResL.nil)) (Take.nil _) ⟨rfl, rfl⟩
 replace H := ite_t h65 H
 refine GoO.guardF rfl rfl rfl rfl ?_
 refine GoO.guardF rfl rfl rfl rfl ?_
 refine GoO.guardF rfl rfl rfl rfl ?_
 refine GoO.guardF rfl rfl rfl rfl ?_
 refine GoO.pure (ps_pickT rfl rfl rfl) ?_
 refine GoO.pure (ps_move rfl rfl) ?_
 refine GoO.guardT rfl rfl rfl ?_
 refine GoO.pure (ps_move rfl rfl) ?_
 refine GoO.guardT rfl rfl rfl ?_
 refine GoO.pure (ps_eql rfl rfl rfl) ?_
 refine GoO.pure (ps_pickT rfl rfl rfl) ?_
 refine GoO.pure (ps_move rfl rfl) ?_
 refine GoO.guardD rfl rfl rfl rfl (fun h69 => ?_) (fun h69 => ?_)
 replace H := ite_t h69 H
 refine GoO.pure (ps_move rfl rfl) ?_
 refine GoO.guardT rfl rfl rfl ?_
 refine GoO.pure (ps_move rfl rfl) ?_
 refine GoO.guardT rfl rfl rfl ?_
 refine GoO.pure (ps_eql rfl rfl rfl) ?_
 refine GoO.pure (ps_pickT rfl rfl rfl) ?_
 refine GoO.pure (ps_assign rfl rfl) ?_
 refine GoO.nil ?_
 refine GoK.code ?_
 obtain rfl := Option.some.inj H
 exact GoC.retL (ds := [.v (.bool (decide (r62 = r6)))]) Try.results14 (ResL.cons (ResD.tmp rfl) (ResL.nil)) (Take.nil _) ⟨rfl, rfl⟩
 replace H := ite_f h69 H
 refine GoO.guardF rfl rfl rfl rfl ?_
 refine GoO.guardF rfl rfl rfl rfl ?_
 refine GoO.pure (ps_pickF rfl rfl rfl) ?_
 refine GoO.pure (ps_assign rfl rfl) ?_
 refine GoO.nil ?_
 refine GoK.code ?_
 obtain rfl := Option.some.inj H
 exact GoC.retL (ds := [.v (.bool false)]) Try.results14 (ResL.cons (ResD.tmp rfl) (ResL.nil)) (Take.nil _) ⟨rfl, rfl⟩
 replace H := ite_t h9 H
 refine GoO.guardF rfl rfl rfl rfl ?_
 refine GoO.guardF rfl rfl rfl rfl ?_
 refine GoO.pure (ps_pickT rfl rfl rfl) ?_
 refine GoO.nil ?_
 refine GoK.code ?_
 refine GoC.condT rfl ?_
 refine GoC.seq ?_
 refine GoC.region ?_
 refine GoO.pure (ps_move rfl rfl) ?_
 refine GoO.pure (ps_eql rfl rfl rfl) ?_
 refine GoO.pure (ps_assign rfl rfl) ?_
 refine GoO.nil ?_
 refine GoK.code ?_
 obtain rfl := Option.some.inj H
 exact GoC.retL (ds := [.v (.bool (decide (r6 = 0)))]) Try.results14 (ResL.cons (ResD.tmp rfl) (ResL.nil)) (Take.nil _) ⟨rfl, rfl⟩

end Go.Proofs.Ytgbdlcbkbdddcaa
