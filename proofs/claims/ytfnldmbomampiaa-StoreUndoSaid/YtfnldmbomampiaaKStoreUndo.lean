/- The functions weirkeep.StoreUndo, told as plain functions, and that the code does as they say. -/
import Derived.Test.YtfnldmbomampiaaTys
import Derived.Test.YtfnldmbomampiaaDat
import Derived.Test.YtfnldmbomampiaaGkeep
import Derived.Test.YtfnldmbomampiaaGstore
namespace Go.Proofs.Ytfnldmbomampiaa
open Go Go.Proofs.Ytfnldmbomampiaa.Sx
set_option linter.unusedVariables false
set_option linter.unusedSimpArgs false
def weirkeep_StoreUndo_B1 (m : (List Deed)) : Nat → (Store × Nat) → Option (Store × Nat) := fun k29 (z19, n23) =>
 if ((m.getD k29 El.d).kind) = 6 then
  some (z19, n23)
 else
  (store_Do_F z19 (m.getD k29 El.d)).bind fun (r33, r34, x35) =>
  if r34 = 0 then
   if 1 ≤ ((m.getD k29 El.d).kind) then
    if ((m.getD k29 El.d).kind) ≤ 5 then
     ck (InI (((n23 : Nat) : Int) + 1)) <|
     some (x35, (n23 + 1))
    else
     if ((m.getD k29 El.d).kind) = 8 then
      ck (InI (((n23 : Nat) : Int) + 1)) <|
      some (x35, (n23 + 1))
     else
      some (x35, n23)
   else
    if ((m.getD k29 El.d).kind) = 8 then
     ck (InI (((n23 : Nat) : Int) + 1)) <|
     some (x35, (n23 + 1))
    else
     some (x35, n23)
  else
   some (x35, n23)
def weirkeep_StoreUndo_B2 : Nat → Store → Option (Ct (Store) (Bool)) := fun k59 z51 =>
 (store_Do_F z51 (⟨6, 0, 0, 0, ByteArray.empty⟩ : Deed)).bind fun (r61, r62, x63) =>
 if r62 ≠ 0 then
  some (.ret false)
 else
  some (.go x63)
def weirkeep_StoreUndo_F (l : (List Deed)) (m : (List Deed)) : Option (Bool) :=
 (weirkeep_stores_F).bind fun r1 =>
 if (!r1) = true then
  some false
 else
  (weirkeep_worked_F l).bind fun r4 =>
  (store_Net_F r4).bind fun (r10, x12) =>
  (forN (weirkeep_StoreUndo_B1 m) m.length 0 (x12, 0)).bind fun (z27, n28) =>
  if 20 < ((n28 : Nat) : Int) then
   some true
  else
   ck (InI ((n28 : Nat) : Int)) <|
   (forC (weirkeep_StoreUndo_B2) n28 0 (⟨(⟨(⟨z27.now.net.n, z27.now.net.s, z27.now.net.t, z27.now.net.as⟩ : Net), z27.now.flow⟩ : StoreState), z27.old, z27.names, z27.saved⟩ : Store)).bind fun q => match q with
   | .go z58 =>
    (store_Net_F (⟨(⟨(⟨z58.now.net.n, z58.now.net.s, z58.now.net.t, z58.now.net.as⟩ : Net), z58.now.flow⟩ : StoreState), z58.old, z58.names, z58.saved⟩ : Store)).bind fun (r70, x72) =>
    (weirkeep_sameNet_F r70 r10).bind fun r77 =>
    some r77
   | .ret x => some x
def weirkeep_StoreUndo_P (out : Bool) (d : D) (H : List HL) : Prop := d = .v (.bool out) ∧ H = []
theorem weirkeep_StoreUndo_I (out : Bool) : IndepP (weirkeep_StoreUndo_P out) := IndepP.of (by rintro _ _ ⟨rfl, rfl⟩; exact ⟨inferInstance, inferInstance⟩)
set_option maxRecDepth 100000 in
set_option maxHeartbeats 4000000 in
theorem weirkeep_StoreUndo_spec (l : (List Deed)) (m : (List Deed)) {out : Bool} (H : weirkeep_StoreUndo_F l m = some out) : Does Try.prog 3 [slD l, slD m] [] (weirkeep_StoreUndo_P out) := by
 unfold weirkeep_StoreUndo_F at H
 refine Does.intro Try.func3 rfl Try.ntmps3 rfl fun w0 I0 => ?_
 refine GoC.seq ?_
 refine GoC.region ?_
 refine GoO.pure (ps_assign rfl rfl) ?_
 refine GoO.nil ?_
 refine GoK.code ?_
 refine GoC.seq ?_
 refine GoC.seq ?_
 refine GoC.region ?_
 have hb := bind_l H; clear H
 obtain ⟨r1, e2, H⟩ := hb
 refine GoO.effC (ef_call rfl (Take.nil _) (Take.nil _) (weirkeep_stores_spec e2) (LendL.nil) rfl (weirkeep_stores_I (r1))) (fun rr HH hp => ?_)
 obtain ⟨rfl, rfl⟩ := hp
 refine GoO.pure (ps_not rfl rfl) ?_
 refine GoO.nil ?_
 refine GoK.code ?_
 refine GoC.cond rfl (fun h3 => ?_) (fun h3 => ?_)
 replace H := itb_t h3 H
 refine GoC.seq ?_
 refine GoC.region ?_
 refine GoO.pure (ps_assign rfl rfl) ?_
 refine GoO.nil ?_
 refine GoK.code ?_
 obtain rfl := Option.some.inj H
 exact GoC.retL (ds := [.v (.bool false)]) Try.results3 (ResL.cons (ResD.tmp rfl) (ResL.nil)) (Take.nil _) ⟨rfl, rfl⟩
 replace H := itb_f h3 H
 refine GoC.skip ?_
 refine GoK.code ?_
 refine GoC.seq ?_
 refine GoC.region ?_
 refine GoO.pure (ps_move rfl rfl) ?_
 have hb := bind_l H; clear H
 obtain ⟨r4, e9, H⟩ := hb
 refine GoO.callF rfl (Take.nil _) (Take.nil _) (weirkeep_worked_spec l e9) (LendL.cons (Lend.refl _ _) (LendL.nil)) rfl nil_fps (fun rr HH hp => ?_)
 obtain ⟨β5, β6, β7, β8, rfl, rfl⟩ := hp
 refine GoO.pure (ps_assign rfl rfl) ?_
 refine GoO.nil ?_
 refine GoK.code ?_
 refine GoC.seq ?_
 refine GoC.seq ?_
 refine GoC.region ?_
 refine GoO.pure (ps_move rfl rfl) ?_
 refine GoO.pure (ps_eqlPtr rfl rfl rfl) ?_
 refine GoO.nil ?_
 refine GoK.code ?_
 refine GoC.condF rfl ?_
 refine GoC.skip ?_
 refine GoK.code ?_
 refine GoC.seq ?_
 refine GoC.region ?_
 refine GoO.pure (ps_move rfl rfl) ?_
 have hb := bind_l H; clear H
 obtain ⟨⟨r10, x12⟩, e13, H⟩ := hb
 refine GoO.callF rfl (Take.cons _ _ _ _ _ Rem.p0 (Take.cons _ _ _ _ _ Rem.p0 (Take.cons _ _ _ _ _ Rem.p0 (Take.cons _ _ _ _ _ Rem.p0 (Take.nil _))))) (Take.nil _) (store_Net_spec r4 β5 β6 β7 β8 e13) (LendL.cons (Lend.refl _ _) (LendL.nil)) rfl nil_fps (fun rr HH hp => ?_)
 obtain ⟨β11, β14, β15, β16, rfl, rfl⟩ := hp
 refine GoO.effB (ef_alloc rfl) (fun β17 => ?_)
 refine GoO.eff1 (ef_storeAg rfl rfl At.p0 upd_whole Nat.zero_lt_one rfl) ?_
 refine GoO.nil ?_
 refine GoK.code ?_
 refine GoC.seq ?_
 refine GoC.region ?_
 refine GoO.pure (ps_assign rfl rfl) ?_
 refine GoO.nil ?_
 refine GoK.code ?_
 refine GoC.seq ?_
 refine GoC.seq ?_
 refine GoC.region ?_
 refine GoO.pure (ps_move rfl rfl) ?_
 refine GoO.pure (ps_len rfl (by constructor) rfl) ?_
 refine GoO.lenLe (n := m.length) (x := .tmp 22) rfl (by constructor) sl_lenLe (fun ml18 => ?_)
 refine GoO.pure (ps_move rfl rfl) ?_
 refine GoO.nil ?_
 refine GoK.code ?_
 have hb := bind_l H; clear H
 obtain ⟨⟨z27, n28⟩, hl48, HK24⟩ := hb
 refine GoC.blockJ [(6, .ptr β17 4 0 0)] [.one β17 28 4 (st1 (nth [.v (.int .i64 r10.n), .v (.int .i64 r10.s), .v (.int .i64 r10.t), .own β11 3 0 r10.as.length])), .one β11 45 3 (row r10.as)] (fun v h => ∃ (β20 : BK) (β21 : BK) (β22 : BK), v = [(5, .ptr β5 8 0 0), (7, .v (.int .i64 ((n28 : Nat) : Int)))] ∧ h = [.one β5 62 8 (st1 (nth [.v (.int .i64 z27.now.net.n), .v (.int .i64 z27.now.net.s), .v (.int .i64 z27.now.net.t), slD z27.now.net.as, slD z27.now.flow, .own β20 5 0 z27.old.length, .own β21 1 0 z27.names.length, .own β22 5 0 z27.saved.length])), .one β20 58 5 (row z27.old), .one β21 9 1 (row z27.names), .one β22 58 5 (row z27.saved)]) ?_ ?_
 refine GoC.loopJ [(6, _), (22, _), (23, _)] [.one β17 28 4 (st1 (nth [.v (.int .i64 r10.n), .v (.int .i64 r10.s), .v (.int .i64 r10.t), .own β11 3 0 r10.as.length])), .one β11 45 3 (row r10.as)] (fun mQ v h => ∃ (k29 : Nat) (z19 : Store) (n23 : Nat) (β20 : BK) (β21 : BK) (β22 : BK), (k29 + mQ = m.length ∧ forN (weirkeep_StoreUndo_B1 m) mQ k29 (z19, n23) = some (z27, n28)) ∧ v = [(24, .v (.int .i64 ((k29 : Nat) : Int))), (5, .ptr β5 8 0 0), (7, .v (.int .i64 ((n23 : Nat) : Int)))] ∧ h = [.one β5 62 8 (st1 (nth [.v (.int .i64 z19.now.net.n), .v (.int .i64 z19.now.net.s), .v (.int .i64 z19.now.net.t), slD z19.now.net.as, slD z19.now.flow, .own β20 5 0 z19.old.length, .own β21 1 0 z19.names.length, .own β22 5 0 z19.saved.length])), .one β20 58 5 (row z19.old), .one β21 9 1 (row z19.names), .one β22 58 5 (row z19.saved)]) m.length ⟨_, _, _, β14, β15, β16, ⟨by omega, hl48⟩, rfl, rfl⟩ (EnvD.eq rfl (EnvD.eq rfl (EnvD.eq rfl (EnvD.eq rfl (EnvD.eq rfl (EnvD.eq rfl (EnvD.nil))))))) (TkD.cons _ _ _ _ _ Rem.p2 (HLe.st ⟨⟨⟨⟨⟨⟨⟨⟨trivial, DLe.refl _⟩, DLe.refl _⟩, DLe.refl _⟩, DLe.refl _⟩, DLe.refl _⟩, DLe.len (by first | rfl | omega | (simp only [row_len, gridC_len, rowO_len] <;> first | rfl | omega))⟩, DLe.len (by first | rfl | omega | (simp only [row_len, gridC_len, rowO_len] <;> first | rfl | omega))⟩, DLe.len (by first | rfl | omega | (simp only [row_len, gridC_len, rowO_len] <;> first | rfl | omega))⟩) (TkD.cons _ _ _ _ _ Rem.p2 (HLe.refl _) (TkD.cons _ _ _ _ _ Rem.p2 (HLe.refl _) (TkD.cons _ _ _ _ _ Rem.p2 (HLe.refl _) (TkD.cons _ _ _ _ _ Rem.p0 (HLe.st ⟨⟨⟨⟨trivial, DLe.refl _⟩, DLe.refl _⟩, DLe.refl _⟩, DLe.refl _⟩) (TkD.cons _ _ _ _ _ Rem.p0 (HLe.refl _) (TkD.nil _))))))) ?_
 rintro m30 v h ⟨k29, z19, n23, β20, β21, β22, ⟨hkk29, hF25⟩, rfl, rfl⟩
 refine GoC.seq ?_
 refine GoC.region ?_
 refine GoO.pure (ps_lss rfl rfl rfl) ?_
 refine GoO.nil ?_
 refine GoK.code ?_
 refine GoC.seq ?_
 refine GoC.condD rfl (fun (hk29 : (k29 : Int) < ((m.length : Nat) : Int)) => ?_) (fun (hk29 : ¬ (k29 : Int) < ((m.length : Nat) : Int)) => ?_)
 obtain ⟨m30', rfl⟩ : ∃ x, m30 = x + 1 := ⟨m30 - 1, by omega⟩
 have hb := bind_l hF25; clear hF25
 obtain ⟨qrm30, H, hF25⟩ := hb
 have hnk29 : k29 < m.length := by omega
 have hIk29 : InI ((k29 : Int) + 1) := inI_len hk29 ml18
 refine GoC.skip ?_
 refine GoK.code ?_
 refine GoC.seq ?_
 refine GoC.block ?_
 refine GoC.seq ?_
 refine GoC.region ?_
 refine GoO.pure (ps_indexAddrRN rfl rfl hnk29 rfl) ?_
 refine GoO.pure (ps_loadAgR rfl hnk29 rfl rfl) ?_
 refine GoO.effB (ef_alloc rfl) (fun β31 => ?_)
 refine GoO.eff1 (ef_storeAg rfl rfl At.p0 upd_whole Nat.zero_lt_one rfl) ?_
 refine GoO.nil ?_
 refine GoK.code ?_
 refine GoC.seq ?_
 refine GoC.seq ?_
 refine GoC.region ?_
 refine GoO.pure (ps_fieldAddr rfl rfl) ?_
 refine GoO.pure (ps_load rfl At.p0 At.p0 Nat.zero_lt_one rfl rfl) ?_
 refine GoO.pure (ps_eql rfl rfl rfl) ?_
 refine GoO.nil ?_
 refine GoK.code ?_
 refine GoC.condD rfl (fun h32 => ?_) (fun h32 => ?_)
 replace H := ite_t h32 H
 refine GoC.exit rfl ?_
 refine GoK.code ?_
 refine GoC.region ?_
 refine GoO.pure (ps_add rfl rfl rfl hIk29) ?_
 refine GoO.pure (ps_move rfl rfl) ?_
 refine GoO.nil ?_
 obtain rfl := Option.some.inj H
 exact GoK.againJ m30' (by omega) ⟨_, _, _, β20, β21, β22, ⟨by omega, hF25⟩, rfl, rfl⟩ (EnvD.eq rfl (EnvD.eq rfl (EnvD.eq rfl (EnvD.eq rfl (EnvD.eq rfl (EnvD.eq rfl (EnvD.nil))))))) (TkD.cons _ _ _ _ _ Rem.p1 (HLe.st ⟨⟨⟨⟨⟨⟨⟨⟨trivial, DLe.refl _⟩, DLe.refl _⟩, DLe.refl _⟩, DLe.refl _⟩, DLe.refl _⟩, DLe.refl _⟩, DLe.refl _⟩, DLe.refl _⟩) (TkD.cons _ _ _ _ _ Rem.p1 (HLe.refl _) (TkD.cons _ _ _ _ _ Rem.p1 (HLe.refl _) (TkD.cons _ _ _ _ _ Rem.p1 (HLe.refl _) (TkD.cons _ _ _ _ _ Rem.p1 (HLe.st ⟨⟨⟨⟨trivial, DLe.refl _⟩, DLe.refl _⟩, DLe.refl _⟩, DLe.refl _⟩) (TkD.cons _ _ _ _ _ Rem.p1 (HLe.refl _) (TkD.nil _)))))))
 replace H := ite_f h32 H
 refine GoC.skip ?_
 refine GoK.code ?_
 refine GoC.seq ?_
 refine GoC.region ?_
 refine GoO.pure (ps_move rfl rfl) ?_
 refine GoO.pure (ps_loadAg rfl At.p0 At.p0 Nat.zero_lt_one rfl rfl) ?_
 have hb := bind_l H; clear H
 obtain ⟨⟨r33, r34, x35⟩, e36, H⟩ := hb
 refine GoO.callF rfl (Take.cons _ _ _ _ _ Rem.p1 (Take.cons _ _ _ _ _ Rem.p1 (Take.cons _ _ _ _ _ Rem.p1 (Take.cons _ _ _ _ _ Rem.p1 (Take.nil _))))) (Take.nil _) (store_Do_spec z19 (m.getD k29 El.d) β5 β20 β21 β22 e36) (LendL.cons (Lend.refl _ _) (LendL.cons (Lend.agA ⟨⟨⟨⟨⟨trivial, Lend.refl _ _⟩, Lend.refl _ _⟩, Lend.refl _ _⟩, Lend.refl _ _⟩, Lend.refl _ _⟩) (LendL.nil))) rfl nil_fps (fun rr HH hp => ?_)
 obtain ⟨β37, β38, β39, rfl, rfl⟩ := hp
 refine GoO.pure (ps_move rfl rfl) ?_
 refine GoO.pure (ps_extract rfl rfl rfl) ?_
 refine GoO.pure (ps_extract rfl rfl rfl) ?_
 refine GoO.pure (ps_assign rfl rfl) ?_
 refine GoO.pure (ps_assign rfl rfl) ?_
 refine GoO.nil ?_
 refine GoK.code ?_
 refine GoC.seq ?_
 refine GoC.region ?_
 refine GoO.pure (ps_move rfl rfl) ?_
 refine GoO.pure (ps_eql rfl rfl rfl) ?_
 refine GoO.pure (ps_move rfl rfl) ?_
 refine GoO.guardD rfl rfl rfl rfl (fun h40 => ?_) (fun h40 => ?_)
 replace H := ite_t h40 H
 refine GoO.pure (ps_fieldAddr rfl rfl) ?_
 refine GoO.guardT rfl rfl rfl ?_
 refine GoO.pure (ps_load rfl At.p4 At.p4 Nat.zero_lt_one rfl rfl) ?_
 refine GoO.guardT rfl rfl rfl ?_
 refine GoO.pure (ps_geq rfl rfl rfl) ?_
 refine GoO.guardT rfl rfl rfl ?_
 refine GoO.pure (ps_move rfl rfl) ?_
 refine GoO.guardD rfl rfl rfl rfl (fun h41 => ?_) (fun h41 => ?_)
 replace H := ite_t h41 H
 refine GoO.pure (ps_fieldAddr rfl rfl) ?_
 refine GoO.guardT rfl rfl rfl ?_
 refine GoO.pure (ps_load rfl At.p4 At.p4 Nat.zero_lt_one rfl rfl) ?_
 refine GoO.guardT rfl rfl rfl ?_
 refine GoO.pure (ps_leq rfl rfl rfl) ?_
 refine GoO.guardT rfl rfl rfl ?_
 refine GoO.pure (ps_pickT rfl rfl rfl) ?_
 refine GoO.guardT rfl rfl rfl ?_
 refine GoO.pure (ps_move rfl rfl) ?_
 refine GoO.guardE rfl rfl rfl rfl (fun h42 => ?_) (fun h42 => ?_)
 replace H := ite_f h42 H
 refine GoO.pure (ps_fieldAddr rfl rfl) ?_
 refine GoO.guardT rfl rfl rfl ?_
 refine GoO.pure (ps_load rfl At.p4 At.p4 Nat.zero_lt_one rfl rfl) ?_
 refine GoO.guardT rfl rfl rfl ?_
 refine GoO.pure (ps_eql rfl rfl rfl) ?_
 refine GoO.guardT rfl rfl rfl ?_
 refine GoO.pure (ps_pickF rfl rfl rfl) ?_
 refine GoO.pure (ps_pickT rfl rfl rfl) ?_
 refine GoO.nil ?_
 refine GoK.code ?_
 refine GoC.condD rfl (fun h43 => ?_) (fun h43 => ?_)
 replace H := ite_t h43 H
 refine GoC.region ?_
 refine GoO.pure (ps_move rfl rfl) ?_
 have c44 := ck_l H; replace H := ck_r H
 refine GoO.pure (ps_add rfl rfl rfl c44) ?_
 refine GoO.pure (ps_assign rfl rfl) ?_
 refine GoO.nil ?_
 refine GoK.blk ?_
 refine GoK.code ?_
 refine GoC.region ?_
 refine GoO.pure (ps_add rfl rfl rfl hIk29) ?_
 refine GoO.pure (ps_move rfl rfl) ?_
 refine GoO.nil ?_
 obtain rfl := Option.some.inj H
 exact GoK.againJ m30' (by omega) ⟨_, _, _, β37, β38, β39, ⟨by omega, hF25⟩, rfl, rfl⟩ (EnvD.eq rfl (EnvD.eq rfl (EnvD.eq rfl (EnvD.eq rfl (EnvD.eq rfl (EnvD.eq rfl (EnvD.nil))))))) (TkD.cons _ _ _ _ _ Rem.p0 (HLe.st ⟨⟨⟨⟨⟨⟨⟨⟨trivial, DLe.refl _⟩, DLe.refl _⟩, DLe.refl _⟩, DLe.refl _⟩, DLe.refl _⟩, DLe.len (by first | rfl | omega | (simp only [row_len, gridC_len, rowO_len] <;> first | rfl | omega))⟩, DLe.len (by first | rfl | omega | (simp only [row_len, gridC_len, rowO_len] <;> first | rfl | omega))⟩, DLe.len (by first | rfl | omega | (simp only [row_len, gridC_len, rowO_len] <;> first | rfl | omega))⟩) (TkD.cons _ _ _ _ _ Rem.p0 (HLe.refl _) (TkD.cons _ _ _ _ _ Rem.p0 (HLe.refl _) (TkD.cons _ _ _ _ _ Rem.p0 (HLe.refl _) (TkD.cons _ _ _ _ _ Rem.p1 (HLe.st ⟨⟨⟨⟨trivial, DLe.refl _⟩, DLe.refl _⟩, DLe.refl _⟩, DLe.refl _⟩) (TkD.cons _ _ _ _ _ Rem.p1 (HLe.refl _) (TkD.nil _)))))))
 replace H := ite_f h43 H
 refine GoC.skip ?_
 refine GoK.blk ?_
 refine GoK.code ?_
 refine GoC.region ?_
 refine GoO.pure (ps_add rfl rfl rfl hIk29) ?_
 refine GoO.pure (ps_move rfl rfl) ?_
 refine GoO.nil ?_
 obtain rfl := Option.some.inj H
 exact GoK.againJ m30' (by omega) ⟨_, _, _, β37, β38, β39, ⟨by omega, hF25⟩, rfl, rfl⟩ (EnvD.eq rfl (EnvD.eq rfl (EnvD.eq rfl (EnvD.eq rfl (EnvD.eq rfl (EnvD.eq rfl (EnvD.nil))))))) (TkD.cons _ _ _ _ _ Rem.p0 (HLe.st ⟨⟨⟨⟨⟨⟨⟨⟨trivial, DLe.refl _⟩, DLe.refl _⟩, DLe.refl _⟩, DLe.refl _⟩, DLe.refl _⟩, DLe.len (by first | rfl | omega | (simp only [row_len, gridC_len, rowO_len] <;> first | rfl | omega))⟩, DLe.len (by first | rfl | omega | (simp only [row_len, gridC_len, rowO_len] <;> first | rfl | omega))⟩, DLe.len (by first | rfl | omega | (simp only [row_len, gridC_len, rowO_len] <;> first | rfl | omega))⟩) (TkD.cons _ _ _ _ _ Rem.p0 (HLe.refl _) (TkD.cons _ _ _ _ _ Rem.p0 (HLe.refl _) (TkD.cons _ _ _ _ _ Rem.p0 (HLe.refl _) (TkD.cons _ _ _ _ _ Rem.p1 (HLe.st ⟨⟨⟨⟨trivial, DLe.refl _⟩, DLe.refl _⟩, DLe.refl _⟩, DLe.refl _⟩) (TkD.cons _ _ _ _ _ Rem.p1 (HLe.refl _) (TkD.nil _)))))))
 replace H := ite_t h42 H
 refine GoO.guardF rfl rfl rfl rfl ?_
 refine GoO.guardF rfl rfl rfl rfl ?_
 refine GoO.guardT rfl rfl rfl ?_
 refine GoO.pure (ps_pickT rfl rfl rfl) ?_
 refine GoO.pure (ps_pickT rfl rfl rfl) ?_
 refine GoO.nil ?_
 refine GoK.code ?_
 refine GoC.condT rfl ?_
 refine GoC.region ?_
 refine GoO.pure (ps_move rfl rfl) ?_
 have c45 := ck_l H; replace H := ck_r H
 refine GoO.pure (ps_add rfl rfl rfl c45) ?_
 refine GoO.pure (ps_assign rfl rfl) ?_
 refine GoO.nil ?_
 refine GoK.blk ?_
 refine GoK.code ?_
 refine GoC.region ?_
 refine GoO.pure (ps_add rfl rfl rfl hIk29) ?_
 refine GoO.pure (ps_move rfl rfl) ?_
 refine GoO.nil ?_
 obtain rfl := Option.some.inj H
 exact GoK.againJ m30' (by omega) ⟨_, _, _, β37, β38, β39, ⟨by omega, hF25⟩, rfl, rfl⟩ (EnvD.eq rfl (EnvD.eq rfl (EnvD.eq rfl (EnvD.eq rfl (EnvD.eq rfl (EnvD.eq rfl (EnvD.nil))))))) (TkD.cons _ _ _ _ _ Rem.p0 (HLe.st ⟨⟨⟨⟨⟨⟨⟨⟨trivial, DLe.refl _⟩, DLe.refl _⟩, DLe.refl _⟩, DLe.refl _⟩, DLe.refl _⟩, DLe.len (by first | rfl | omega | (simp only [row_len, gridC_len, rowO_len] <;> first | rfl | omega))⟩, DLe.len (by first | rfl | omega | (simp only [row_len, gridC_len, rowO_len] <;> first | rfl | omega))⟩, DLe.len (by first | rfl | omega | (simp only [row_len, gridC_len, rowO_len] <;> first | rfl | omega))⟩) (TkD.cons _ _ _ _ _ Rem.p0 (HLe.refl _) (TkD.cons _ _ _ _ _ Rem.p0 (HLe.refl _) (TkD.cons _ _ _ _ _ Rem.p0 (HLe.refl _) (TkD.cons _ _ _ _ _ Rem.p1 (HLe.st ⟨⟨⟨⟨trivial, DLe.refl _⟩, DLe.refl _⟩, DLe.refl _⟩, DLe.refl _⟩) (TkD.cons _ _ _ _ _ Rem.p1 (HLe.refl _) (TkD.nil _)))))))
 replace H := ite_f h41 H
 refine GoO.guardF rfl rfl rfl rfl ?_
 refine GoO.guardF rfl rfl rfl rfl ?_
 refine GoO.guardT rfl rfl rfl ?_
 refine GoO.pure (ps_pickF rfl rfl rfl) ?_
 refine GoO.guardT rfl rfl rfl ?_
 refine GoO.pure (ps_move rfl rfl) ?_
 refine GoO.guardT rfl rfl rfl ?_
 refine GoO.pure (ps_fieldAddr rfl rfl) ?_
 refine GoO.guardT rfl rfl rfl ?_
 refine GoO.pure (ps_load rfl At.p4 At.p4 Nat.zero_lt_one rfl rfl) ?_
 refine GoO.guardT rfl rfl rfl ?_
 refine GoO.pure (ps_eql rfl rfl rfl) ?_
 refine GoO.guardT rfl rfl rfl ?_
 refine GoO.pure (ps_pickF rfl rfl rfl) ?_
 refine GoO.pure (ps_pickT rfl rfl rfl) ?_
 refine GoO.nil ?_
 refine GoK.code ?_
 refine GoC.condD rfl (fun h46 => ?_) (fun h46 => ?_)
 replace H := ite_t h46 H
 refine GoC.region ?_
 refine GoO.pure (ps_move rfl rfl) ?_
 have c47 := ck_l H; replace H := ck_r H
 refine GoO.pure (ps_add rfl rfl rfl c47) ?_
 refine GoO.pure (ps_assign rfl rfl) ?_
 refine GoO.nil ?_
 refine GoK.blk ?_
 refine GoK.code ?_
 refine GoC.region ?_
 refine GoO.pure (ps_add rfl rfl rfl hIk29) ?_
 refine GoO.pure (ps_move rfl rfl) ?_
 refine GoO.nil ?_
 obtain rfl := Option.some.inj H
 exact GoK.againJ m30' (by omega) ⟨_, _, _, β37, β38, β39, ⟨by omega, hF25⟩, rfl, rfl⟩ (EnvD.eq rfl (EnvD.eq rfl (EnvD.eq rfl (EnvD.eq rfl (EnvD.eq rfl (EnvD.eq rfl (EnvD.nil))))))) (TkD.cons _ _ _ _ _ Rem.p0 (HLe.st ⟨⟨⟨⟨⟨⟨⟨⟨trivial, DLe.refl _⟩, DLe.refl _⟩, DLe.refl _⟩, DLe.refl _⟩, DLe.refl _⟩, DLe.len (by first | rfl | omega | (simp only [row_len, gridC_len, rowO_len] <;> first | rfl | omega))⟩, DLe.len (by first | rfl | omega | (simp only [row_len, gridC_len, rowO_len] <;> first | rfl | omega))⟩, DLe.len (by first | rfl | omega | (simp only [row_len, gridC_len, rowO_len] <;> first | rfl | omega))⟩) (TkD.cons _ _ _ _ _ Rem.p0 (HLe.refl _) (TkD.cons _ _ _ _ _ Rem.p0 (HLe.refl _) (TkD.cons _ _ _ _ _ Rem.p0 (HLe.refl _) (TkD.cons _ _ _ _ _ Rem.p1 (HLe.st ⟨⟨⟨⟨trivial, DLe.refl _⟩, DLe.refl _⟩, DLe.refl _⟩, DLe.refl _⟩) (TkD.cons _ _ _ _ _ Rem.p1 (HLe.refl _) (TkD.nil _)))))))
 replace H := ite_f h46 H
 refine GoC.skip ?_
 refine GoK.blk ?_
 refine GoK.code ?_
 refine GoC.region ?_
 refine GoO.pure (ps_add rfl rfl rfl hIk29) ?_
 refine GoO.pure (ps_move rfl rfl) ?_
 refine GoO.nil ?_
 obtain rfl := Option.some.inj H
 exact GoK.againJ m30' (by omega) ⟨_, _, _, β37, β38, β39, ⟨by omega, hF25⟩, rfl, rfl⟩ (EnvD.eq rfl (EnvD.eq rfl (EnvD.eq rfl (EnvD.eq rfl (EnvD.eq rfl (EnvD.eq rfl (EnvD.nil))))))) (TkD.cons _ _ _ _ _ Rem.p0 (HLe.st ⟨⟨⟨⟨⟨⟨⟨⟨trivial, DLe.refl _⟩, DLe.refl _⟩, DLe.refl _⟩, DLe.refl _⟩, DLe.refl _⟩, DLe.len (by first | rfl | omega | (simp only [row_len, gridC_len, rowO_len] <;> first | rfl | omega))⟩, DLe.len (by first | rfl | omega | (simp only [row_len, gridC_len, rowO_len] <;> first | rfl | omega))⟩, DLe.len (by first | rfl | omega | (simp only [row_len, gridC_len, rowO_len] <;> first | rfl | omega))⟩) (TkD.cons _ _ _ _ _ Rem.p0 (HLe.refl _) (TkD.cons _ _ _ _ _ Rem.p0 (HLe.refl _) (TkD.cons _ _ _ _ _ Rem.p0 (HLe.refl _) (TkD.cons _ _ _ _ _ Rem.p1 (HLe.st ⟨⟨⟨⟨trivial, DLe.refl _⟩, DLe.refl _⟩, DLe.refl _⟩, DLe.refl _⟩) (TkD.cons _ _ _ _ _ Rem.p1 (HLe.refl _) (TkD.nil _)))))))
 replace H := ite_f h40 H
 refine GoO.guardF rfl rfl rfl rfl ?_
 refine GoO.guardF rfl rfl rfl rfl ?_
 refine GoO.guardF rfl rfl rfl rfl ?_
 refine GoO.guardU rfl rfl rfl rfl ?_
 refine GoO.guardU rfl rfl rfl rfl ?_
 refine GoO.guardU rfl rfl rfl rfl ?_
 refine GoO.guardF rfl rfl rfl rfl ?_
 refine GoO.guardF rfl rfl rfl rfl ?_
 refine GoO.guardU rfl rfl rfl rfl ?_
 refine GoO.guardU rfl rfl rfl rfl ?_
 refine GoO.guardU rfl rfl rfl rfl ?_
 refine GoO.guardF rfl rfl rfl rfl ?_
 refine GoO.pure (ps_pickF rfl rfl rfl) ?_
 refine GoO.nil ?_
 refine GoK.code ?_
 refine GoC.condF rfl ?_
 refine GoC.skip ?_
 refine GoK.blk ?_
 refine GoK.code ?_
 refine GoC.region ?_
 refine GoO.pure (ps_add rfl rfl rfl hIk29) ?_
 refine GoO.pure (ps_move rfl rfl) ?_
 refine GoO.nil ?_
 obtain rfl := Option.some.inj H
 exact GoK.againJ m30' (by omega) ⟨_, _, _, β37, β38, β39, ⟨by omega, hF25⟩, rfl, rfl⟩ (EnvD.eq rfl (EnvD.eq rfl (EnvD.eq rfl (EnvD.eq rfl (EnvD.eq rfl (EnvD.eq rfl (EnvD.nil))))))) (TkD.cons _ _ _ _ _ Rem.p0 (HLe.st ⟨⟨⟨⟨⟨⟨⟨⟨trivial, DLe.refl _⟩, DLe.refl _⟩, DLe.refl _⟩, DLe.refl _⟩, DLe.refl _⟩, DLe.len (by first | rfl | omega | (simp only [row_len, gridC_len, rowO_len] <;> first | rfl | omega))⟩, DLe.len (by first | rfl | omega | (simp only [row_len, gridC_len, rowO_len] <;> first | rfl | omega))⟩, DLe.len (by first | rfl | omega | (simp only [row_len, gridC_len, rowO_len] <;> first | rfl | omega))⟩) (TkD.cons _ _ _ _ _ Rem.p0 (HLe.refl _) (TkD.cons _ _ _ _ _ Rem.p0 (HLe.refl _) (TkD.cons _ _ _ _ _ Rem.p0 (HLe.refl _) (TkD.cons _ _ _ _ _ Rem.p1 (HLe.st ⟨⟨⟨⟨trivial, DLe.refl _⟩, DLe.refl _⟩, DLe.refl _⟩, DLe.refl _⟩) (TkD.cons _ _ _ _ _ Rem.p1 (HLe.refl _) (TkD.nil _)))))))
 obtain rfl : m30 = 0 := by omega
 refine GoC.exit rfl ?_
 cases hF25
 exact GoK.meet ⟨β20, β21, β22, rfl, rfl⟩ (EnvD.eq rfl (EnvD.eq rfl (EnvD.eq rfl (EnvD.nil)))) (TkD.cons _ _ _ _ _ Rem.p0 (HLe.st ⟨⟨⟨⟨⟨⟨⟨⟨trivial, DLe.refl _⟩, DLe.refl _⟩, DLe.refl _⟩, DLe.refl _⟩, DLe.refl _⟩, DLe.len (by first | rfl | omega | (simp only [row_len, gridC_len, rowO_len] <;> first | rfl | omega))⟩, DLe.len (by first | rfl | omega | (simp only [row_len, gridC_len, rowO_len] <;> first | rfl | omega))⟩, DLe.len (by first | rfl | omega | (simp only [row_len, gridC_len, rowO_len] <;> first | rfl | omega))⟩) (TkD.cons _ _ _ _ _ Rem.p0 (HLe.refl _) (TkD.cons _ _ _ _ _ Rem.p0 (HLe.refl _) (TkD.cons _ _ _ _ _ Rem.p0 (HLe.refl _) (TkD.cons _ _ _ _ _ Rem.p0 (HLe.st ⟨⟨⟨⟨trivial, DLe.refl _⟩, DLe.refl _⟩, DLe.refl _⟩, DLe.refl _⟩) (TkD.cons _ _ _ _ _ Rem.p0 (HLe.refl _) (TkD.nil _)))))))
 rintro v h ⟨β20, β21, β22, rfl, rfl⟩
 have H := HK24; clear HK24
 refine GoK.code ?_
 refine GoC.seq ?_
 refine GoC.seq ?_
 refine GoC.region ?_
 refine GoO.pure (ps_move rfl rfl) ?_
 refine GoO.pure (ps_gtr rfl rfl rfl) ?_
 refine GoO.nil ?_
 refine GoK.code ?_
 refine GoC.condD rfl (fun h49 => ?_) (fun h49 => ?_)
 replace H := ite_t h49 H
 refine GoC.seq ?_
 refine GoC.region ?_
 refine GoO.pure (ps_assign rfl rfl) ?_
 refine GoO.nil ?_
 refine GoK.code ?_
 obtain rfl := Option.some.inj H
 exact GoC.retL (ds := [.v (.bool true)]) Try.results3 (ResL.cons (ResD.tmp rfl) (ResL.nil)) (Take.nil _) ⟨rfl, rfl⟩
 replace H := ite_f h49 H
 refine GoC.skip ?_
 refine GoK.code ?_
 refine GoC.seq ?_
 refine GoC.seq ?_
 refine GoC.region ?_
 refine GoO.pure (ps_move rfl rfl) ?_
 refine GoO.pure (ps_move rfl rfl) ?_
 refine GoO.nil ?_
 refine GoK.code ?_
 have c50 := ck_l H; replace H := ck_r H
 have hb := bind_l H; clear H
 obtain ⟨q57, hl69, HK55⟩ := hb
 refine GoC.blockJ [(6, .ptr β17 4 0 0)] [.one β17 28 4 (st1 (nth [.v (.int .i64 r10.n), .v (.int .i64 r10.s), .v (.int .i64 r10.t), .own β11 3 0 r10.as.length])), .one β11 45 3 (row r10.as)] (fun v h => ∃ (z58 : Store) (β52 : BK) (β53 : BK) (β54 : BK), q57 = .go z58 ∧ v = [(5, .ptr β5 8 0 0)] ∧ h = [.one β5 62 8 (st1 (nth [.v (.int .i64 z58.now.net.n), .v (.int .i64 z58.now.net.s), .v (.int .i64 z58.now.net.t), slD z58.now.net.as, slD z58.now.flow, .own β52 5 0 z58.old.length, .own β53 1 0 z58.names.length, .own β54 5 0 z58.saved.length])), .one β52 58 5 (row z58.old), .one β53 9 1 (row z58.names), .one β54 58 5 (row z58.saved)]) ?_ ?_
 refine GoC.loopJ [(6, _), (59, _)] [.one β17 28 4 (st1 (nth [.v (.int .i64 r10.n), .v (.int .i64 r10.s), .v (.int .i64 r10.t), .own β11 3 0 r10.as.length])), .one β11 45 3 (row r10.as)] (fun mQ v h => ∃ (k59 : Nat) (z51 : Store) (β52 : BK) (β53 : BK) (β54 : BK), (k59 + mQ = n28 ∧ forC (weirkeep_StoreUndo_B2) mQ k59 z51 = some q57) ∧ v = [(60, .v (.int .i64 ((k59 : Nat) : Int))), (5, .ptr β5 8 0 0)] ∧ h = [.one β5 62 8 (st1 (nth [.v (.int .i64 z51.now.net.n), .v (.int .i64 z51.now.net.s), .v (.int .i64 z51.now.net.t), slD z51.now.net.as, slD z51.now.flow, .own β52 5 0 z51.old.length, .own β53 1 0 z51.names.length, .own β54 5 0 z51.saved.length])), .one β52 58 5 (row z51.old), .one β53 9 1 (row z51.names), .one β54 58 5 (row z51.saved)]) n28 ⟨_, _, β20, β21, β22, ⟨by omega, hl69⟩, rfl, rfl⟩ (EnvD.eq rfl (EnvD.eq rfl (EnvD.eq rfl (EnvD.eq rfl (EnvD.nil))))) (TkD.cons _ _ _ _ _ Rem.p0 (HLe.st ⟨⟨⟨⟨⟨⟨⟨⟨trivial, DLe.refl _⟩, DLe.refl _⟩, DLe.refl _⟩, DLe.refl _⟩, DLe.refl _⟩, DLe.len (by first | rfl | omega | (simp only [row_len, gridC_len, rowO_len] <;> first | rfl | omega))⟩, DLe.len (by first | rfl | omega | (simp only [row_len, gridC_len, rowO_len] <;> first | rfl | omega))⟩, DLe.len (by first | rfl | omega | (simp only [row_len, gridC_len, rowO_len] <;> first | rfl | omega))⟩) (TkD.cons _ _ _ _ _ Rem.p0 (HLe.refl _) (TkD.cons _ _ _ _ _ Rem.p0 (HLe.refl _) (TkD.cons _ _ _ _ _ Rem.p0 (HLe.refl _) (TkD.cons _ _ _ _ _ Rem.p0 (HLe.st ⟨⟨⟨⟨trivial, DLe.refl _⟩, DLe.refl _⟩, DLe.refl _⟩, DLe.refl _⟩) (TkD.cons _ _ _ _ _ Rem.p0 (HLe.refl _) (TkD.nil _))))))) ?_
 rintro m60 v h ⟨k59, z51, β52, β53, β54, ⟨hkk59, hF56⟩, rfl, rfl⟩
 refine GoC.seq ?_
 refine GoC.region ?_
 refine GoO.pure (ps_lss rfl rfl rfl) ?_
 refine GoO.nil ?_
 refine GoK.code ?_
 refine GoC.seq ?_
 refine GoC.condD rfl (fun (hk59 : (k59 : Int) < ((n28 : Nat) : Int)) => ?_) (fun (hk59 : ¬ (k59 : Int) < ((n28 : Nat) : Int)) => ?_)
 obtain ⟨m60', rfl⟩ : ∃ x, m60 = x + 1 := ⟨m60 - 1, by omega⟩
 have hb := bind_l hF56; clear hF56
 obtain ⟨qrm60, H, hF56⟩ := hb
 have hnk59 : k59 < n28 := by omega
 have hIk59 : InI ((k59 : Int) + 1) := inI_cnt hk59 c50
 refine GoC.skip ?_
 refine GoK.code ?_
 refine GoC.seq ?_
 refine GoC.block ?_
 refine GoC.seq ?_
 refine GoC.region ?_
 refine GoO.pure (ps_move rfl rfl) ?_
 refine GoO.pure (ps_build (Parts.cons _ _ _ _ _ _ _ _ FdP.of (Part.one _ rfl rfl) rfl rfl (Parts.nil _)) rfl) ?_
 have hb := bind_l H; clear H
 obtain ⟨⟨r61, r62, x63⟩, e64, H⟩ := hb
 refine GoO.callF rfl (Take.cons _ _ _ _ _ Rem.p0 (Take.cons _ _ _ _ _ Rem.p0 (Take.cons _ _ _ _ _ Rem.p0 (Take.cons _ _ _ _ _ Rem.p0 (Take.nil _))))) (Take.nil _) (store_Do_spec z51 (⟨6, 0, 0, 0, ByteArray.empty⟩ : Deed) β5 β52 β53 β54 e64) (LendL.cons (Lend.refl _ _) (LendL.cons (Lend.agA ⟨⟨⟨⟨⟨trivial, Lend.refl _ _⟩, Lend.refl _ _⟩, Lend.refl _ _⟩, Lend.refl _ _⟩, Lend.refl _ _⟩) (LendL.nil))) rfl nil_fps (fun rr HH hp => ?_)
 obtain ⟨β65, β66, β67, rfl, rfl⟩ := hp
 refine GoO.pure (ps_move rfl rfl) ?_
 refine GoO.pure (ps_extract rfl rfl rfl) ?_
 refine GoO.pure (ps_extract rfl rfl rfl) ?_
 refine GoO.pure (ps_assign rfl rfl) ?_
 refine GoO.pure (ps_assign rfl rfl) ?_
 refine GoO.nil ?_
 refine GoK.code ?_
 refine GoC.seq ?_
 refine GoC.region ?_
 refine GoO.pure (ps_move rfl rfl) ?_
 refine GoO.pure (ps_neq rfl rfl rfl) ?_
 refine GoO.nil ?_
 refine GoK.code ?_
 refine GoC.condD rfl (fun h68 => ?_) (fun h68 => ?_)
 replace H := ite_t h68 H
 refine GoC.seq ?_
 refine GoC.region ?_
 refine GoO.pure (ps_assign rfl rfl) ?_
 refine GoO.nil ?_
 refine GoK.code ?_
 obtain rfl := Option.some.inj H
 obtain rfl := Option.some.inj hF56
 obtain rfl := Option.some.inj HK55
 exact GoC.retL (ds := [.v (.bool false)]) Try.results3 (ResL.cons (ResD.tmp rfl) (ResL.nil)) (Take.nil _) ⟨rfl, rfl⟩
 replace H := ite_f h68 H
 refine GoC.skip ?_
 refine GoK.blk ?_
 refine GoK.code ?_
 refine GoC.region ?_
 refine GoO.pure (ps_add rfl rfl rfl hIk59) ?_
 refine GoO.pure (ps_move rfl rfl) ?_
 refine GoO.nil ?_
 obtain rfl := Option.some.inj H
 exact GoK.againJ m60' (by omega) ⟨_, _, β65, β66, β67, ⟨by omega, hF56⟩, rfl, rfl⟩ (EnvD.eq rfl (EnvD.eq rfl (EnvD.eq rfl (EnvD.eq rfl (EnvD.nil))))) (TkD.cons _ _ _ _ _ Rem.p0 (HLe.st ⟨⟨⟨⟨⟨⟨⟨⟨trivial, DLe.refl _⟩, DLe.refl _⟩, DLe.refl _⟩, DLe.refl _⟩, DLe.refl _⟩, DLe.len (by first | rfl | omega | (simp only [row_len, gridC_len, rowO_len] <;> first | rfl | omega))⟩, DLe.len (by first | rfl | omega | (simp only [row_len, gridC_len, rowO_len] <;> first | rfl | omega))⟩, DLe.len (by first | rfl | omega | (simp only [row_len, gridC_len, rowO_len] <;> first | rfl | omega))⟩) (TkD.cons _ _ _ _ _ Rem.p0 (HLe.refl _) (TkD.cons _ _ _ _ _ Rem.p0 (HLe.refl _) (TkD.cons _ _ _ _ _ Rem.p0 (HLe.refl _) (TkD.cons _ _ _ _ _ Rem.p0 (HLe.st ⟨⟨⟨⟨trivial, DLe.refl _⟩, DLe.refl _⟩, DLe.refl _⟩, DLe.refl _⟩) (TkD.cons _ _ _ _ _ Rem.p0 (HLe.refl _) (TkD.nil _)))))))
 obtain rfl : m60 = 0 := by omega
 refine GoC.exit rfl ?_
 cases hF56
 exact GoK.meet ⟨_, β52, β53, β54, rfl, rfl, rfl⟩ (EnvD.eq rfl (EnvD.eq rfl (EnvD.nil))) (TkD.cons _ _ _ _ _ Rem.p0 (HLe.st ⟨⟨⟨⟨⟨⟨⟨⟨trivial, DLe.refl _⟩, DLe.refl _⟩, DLe.refl _⟩, DLe.refl _⟩, DLe.refl _⟩, DLe.len (by first | rfl | omega | (simp only [row_len, gridC_len, rowO_len] <;> first | rfl | omega))⟩, DLe.len (by first | rfl | omega | (simp only [row_len, gridC_len, rowO_len] <;> first | rfl | omega))⟩, DLe.len (by first | rfl | omega | (simp only [row_len, gridC_len, rowO_len] <;> first | rfl | omega))⟩) (TkD.cons _ _ _ _ _ Rem.p0 (HLe.refl _) (TkD.cons _ _ _ _ _ Rem.p0 (HLe.refl _) (TkD.cons _ _ _ _ _ Rem.p0 (HLe.refl _) (TkD.cons _ _ _ _ _ Rem.p0 (HLe.st ⟨⟨⟨⟨trivial, DLe.refl _⟩, DLe.refl _⟩, DLe.refl _⟩, DLe.refl _⟩) (TkD.cons _ _ _ _ _ Rem.p0 (HLe.refl _) (TkD.nil _)))))))
 rintro v h ⟨z58, β52, β53, β54, rfl, rfl, rfl⟩
 have H := HK55; clear HK55
 refine GoK.code ?_
 refine GoC.seq ?_
 refine GoC.drawP (.q 0 (.q 2 (.one 1 (.one 3 (.q 4 (.done)))))) [(6, _, _, _)] follows (by kernel_rfl) (Take.cons _ _ _ _ _ Rem.p4 (Take.nil _)) ?_
 refine GoP.qN rfl (ps_move rfl rfl) ?_
 refine GoP.qN rfl (ps_loadAg rfl At.p4 At.p0 Nat.zero_lt_one rfl rfl) ?_
 have hb := bind_l H; clear H
 obtain ⟨⟨r70, x72⟩, e73, H⟩ := hb
 refine GoP.oneCG rfl trivial (ef_callK rfl (Take.cons _ _ _ _ _ Rem.p0 (Take.cons _ _ _ _ _ Rem.p0 (Take.cons _ _ _ _ _ Rem.p0 (Take.cons _ _ _ _ _ Rem.p0 (Take.nil _))))) (Take.nil _) (store_Net_spec (⟨(⟨(⟨z58.now.net.n, z58.now.net.s, z58.now.net.t, z58.now.net.as⟩ : Net), z58.now.flow⟩ : StoreState), z58.old, z58.names, z58.saved⟩ : Store) β5 β52 β53 β54 e73) (LendL.cons (Lend.refl _ _) (LendL.nil)) rfl nil_fps) (Take.cons _ _ _ _ _ Rem.p0 (Take.cons _ _ _ _ _ Rem.p0 (Take.cons _ _ _ _ _ Rem.p0 (Take.cons _ _ _ _ _ Rem.p0 (Take.cons _ _ _ _ _ Rem.p0 (Take.nil _)))))) (fun rr HH hp => ?_)
 obtain ⟨β71, β74, β75, β76, rfl, rfl⟩ := hp
 have hb := bind_l H; clear H
 obtain ⟨r77, e78, H⟩ := hb
 refine GoP.oneC rfl trivial (ef_call rfl (Take.nil _) (Take.cons _ _ _ _ _ Rem.p0 (Take.cons _ _ _ _ _ Rem.p5 (Take.nil _))) (weirkeep_sameNet_spec r70 r10 e78) (LendL.cons (Lend.agA ⟨⟨⟨⟨trivial, Lend.refl _ _⟩, Lend.refl _ _⟩, Lend.refl _ _⟩, Lend.all' At.p0 (by first | rfl | omega | (simp only [subl_length, cpl_length, List.length_set, List.length_append, List.length_cons, List.length_nil, List.length_replicate, row_len] <;> first | rfl | omega)) rfl⟩) (LendL.cons (Lend.agA ⟨⟨⟨⟨trivial, Lend.refl _ _⟩, Lend.refl _ _⟩, Lend.refl _ _⟩, Lend.all' At.p1 (by first | rfl | omega | (simp only [subl_length, cpl_length, List.length_set, List.length_append, List.length_cons, List.length_nil, List.length_replicate, row_len] <;> first | rfl | omega)) rfl⟩) (LendL.nil))) rfl (weirkeep_sameNet_I (r77))) (Take.cons _ _ _ _ _ Rem.p5 (Take.nil _)) (fun rr HH hp => ?_)
 obtain ⟨rfl, rfl⟩ := hp
 refine GoP.qN rfl (ps_assign rfl rfl) ?_
 refine GoP.done ?_
 refine GoK.code ?_
 obtain rfl := Option.some.inj H
 exact GoC.retL (ds := [.v (.bool r77)]) Try.results3 (ResL.cons (ResD.tmp rfl) (ResL.nil)) (Take.nil _) ⟨rfl, rfl⟩

end Go.Proofs.Ytfnldmbomampiaa
