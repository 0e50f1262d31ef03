/- The functions weirkeep.StoreSaves, told as plain functions, and that the code does as they say. -/
import Derived.Test.YtfnldmbomampiaaTys
import Derived.Test.YtfnldmbomampiaaDat
import Derived.Test.YtfnldmbomampiaaGkeep
import Derived.Test.YtfnldmbomampiaaGstore
namespace Go.Proofs.Ytfnldmbomampiaa
open Go Go.Proofs.Ytfnldmbomampiaa.Sx
set_option linter.unusedVariables false
set_option linter.unusedSimpArgs false
def weirkeep_StoreSaves_B1 (m : (List Deed)) (name : ByteArray) : Nat → Store → Option (Store) := fun k44 z36 =>
 if ((m.getD k44 El.d).kind) ≠ 7 then
  (store_Do_F z36 (m.getD k44 El.d)).bind fun (r56, r57, x58) =>
  some x58
 else
  if ((m.getD k44 El.d).name) ≠ name then
   (store_Do_F z36 (m.getD k44 El.d)).bind fun (r49, r50, x51) =>
   some x51
  else
   some z36
def weirkeep_StoreSaves_F (l : (List Deed)) (m : (List Deed)) (name : ByteArray) : Option (Bool) :=
 (weirkeep_stores_F).bind fun r1 =>
 if (!r1) = true then
  some false
 else
  (weirkeep_worked_F l).bind fun r4 =>
  (store_Net_F r4).bind fun (r10, x12) =>
  (store_Do_F x12 (⟨7, 0, 0, 0, name⟩ : Deed)).bind fun (r18, r19, x20) =>
  if r19 ≠ 0 then
   (store_Net_F x20).bind fun (r26, x28) =>
   (weirkeep_sameNet_F r26 r10).bind fun r33 =>
   some r33
  else
   (forN (weirkeep_StoreSaves_B1 m name) m.length 0 x20).bind fun z43 =>
   (store_Do_F (⟨(⟨(⟨z43.now.net.n, z43.now.net.s, z43.now.net.t, z43.now.net.as⟩ : Net), z43.now.flow⟩ : StoreState), z43.old, z43.names, z43.saved⟩ : Store) (⟨8, 0, 0, 0, name⟩ : Deed)).bind fun (r64, r65, x66) =>
   if r65 = 0 then
    (store_Net_F x66).bind fun (r72, x74) =>
    (weirkeep_sameNet_F r72 r10).bind fun r79 =>
    some r79
   else
    some false
def weirkeep_StoreSaves_P (out : Bool) (d : D) (H : List HL) : Prop := d = .v (.bool out) ∧ H = []
theorem weirkeep_StoreSaves_I (out : Bool) : IndepP (weirkeep_StoreSaves_P out) := IndepP.of (by rintro _ _ ⟨rfl, rfl⟩; exact ⟨inferInstance, inferInstance⟩)
set_option maxRecDepth 100000 in
set_option maxHeartbeats 4000000 in
theorem weirkeep_StoreSaves_spec (l : (List Deed)) (m : (List Deed)) (name : ByteArray) {out : Bool} (H : weirkeep_StoreSaves_F l m name = some out) : Does Try.prog 4 [slD l, slD m, .v (.string name)] [] (weirkeep_StoreSaves_P out) := by
 unfold weirkeep_StoreSaves_F at H
 refine Does.intro Try.func4 rfl Try.ntmps4 rfl fun w0 I0 => ?_
 refine GoC.seq ?_
 refine GoC.region ?_
 refine GoO.pure (ps_assign rfl rfl) ?_
 refine GoO.nil ?_
 refine GoK.code ?_
 refine GoC.seq ?_
 refine GoC.seq ?_
 refine GoC.region ?_
 have hb := bind_l H; clear H
 obtain ⟨r1, e2, H⟩ := hb
 refine GoO.effC (ef_call rfl (Take.nil _) (Take.nil _) (weirkeep_stores_spec e2) (LendL.nil) rfl (weirkeep_stores_I (r1))) (fun rr HH hp => ?_)
 obtain ⟨rfl, rfl⟩ := hp
 refine GoO.pure (ps_not rfl rfl) ?_
 refine GoO.nil ?_
 refine GoK.code ?_
 refine GoC.cond rfl (fun h3 => ?_) (fun h3 => ?_)
 replace H := itb_t h3 H
 refine GoC.seq ?_
 refine GoC.region ?_
 refine GoO.pure (ps_assign rfl rfl) ?_
 refine GoO.nil ?_
 refine GoK.code ?_
 obtain rfl := Option.some.inj H
 exact GoC.retL (ds := [.v (.bool false)]) Try.results4 (ResL.cons (ResD.tmp rfl) (ResL.nil)) (Take.nil _) ⟨rfl, rfl⟩
 replace H := itb_f h3 H
 refine GoC.skip ?_
 refine GoK.code ?_
 refine GoC.seq ?_
 refine GoC.region ?_
 refine GoO.pure (ps_move rfl rfl) ?_
 have hb := bind_l H; clear H
 obtain ⟨r4, e9, H⟩ := hb
 refine GoO.callF rfl (Take.nil _) (Take.nil _) (weirkeep_worked_spec l e9) (LendL.cons (Lend.refl _ _) (LendL.nil)) rfl nil_fps (fun rr HH hp => ?_)
 obtain ⟨β5, β6, β7, β8, rfl, rfl⟩ := hp
 refine GoO.pure (ps_assign rfl rfl) ?_
 refine GoO.nil ?_
 refine GoK.code ?_
 refine GoC.seq ?_
 refine GoC.seq ?_
 refine GoC.region ?_
 refine GoO.pure (ps_move rfl rfl) ?_
 refine GoO.pure (ps_eqlPtr rfl rfl rfl) ?_
 refine GoO.nil ?_
 refine GoK.code ?_
 refine GoC.condF rfl ?_
 refine GoC.skip ?_
 refine GoK.code ?_
 refine GoC.seq ?_
 refine GoC.region ?_
 refine GoO.pure (ps_move rfl rfl) ?_
 have hb := bind_l H; clear H
 obtain ⟨⟨r10, x12⟩, e13, H⟩ := hb
 refine GoO.callF rfl (Take.cons _ _ _ _ _ Rem.p0 (Take.cons _ _ _ _ _ Rem.p0 (Take.cons _ _ _ _ _ Rem.p0 (Take.cons _ _ _ _ _ Rem.p0 (Take.nil _))))) (Take.nil _) (store_Net_spec r4 β5 β6 β7 β8 e13) (LendL.cons (Lend.refl _ _) (LendL.nil)) rfl nil_fps (fun rr HH hp => ?_)
 obtain ⟨β11, β14, β15, β16, rfl, rfl⟩ := hp
 refine GoO.effB (ef_alloc rfl) (fun β17 => ?_)
 refine GoO.eff1 (ef_storeAg rfl rfl At.p0 upd_whole Nat.zero_lt_one rfl) ?_
 refine GoO.nil ?_
 refine GoK.code ?_
 refine GoC.seq ?_
 refine GoC.seq ?_
 refine GoC.region ?_
 refine GoO.pure (ps_move rfl rfl) ?_
 refine GoO.pure (ps_move rfl rfl) ?_
 refine GoO.pure (ps_build (Parts.cons _ _ _ _ _ _ _ _ FdP.of (Part.one _ rfl rfl) rfl rfl (Parts.cons _ _ _ _ _ _ _ _ FdP.of (Part.one _ rfl rfl) rfl rfl (Parts.nil _))) rfl) ?_
 have hb := bind_l H; clear H
 obtain ⟨⟨r18, r19, x20⟩, e21, H⟩ := hb
 refine GoO.callF rfl (Take.cons _ _ _ _ _ Rem.p2 (Take.cons _ _ _ _ _ Rem.p2 (Take.cons _ _ _ _ _ Rem.p2 (Take.cons _ _ _ _ _ Rem.p2 (Take.nil _))))) (Take.nil _) (store_Do_spec x12 (⟨7, 0, 0, 0, name⟩ : Deed) β5 β14 β15 β16 e21) (LendL.cons (Lend.refl _ _) (LendL.cons (Lend.agA ⟨⟨⟨⟨⟨trivial, Lend.refl _ _⟩, Lend.refl _ _⟩, Lend.refl _ _⟩, Lend.refl _ _⟩, Lend.refl _ _⟩) (LendL.nil))) rfl nil_fps (fun rr HH hp => ?_)
 obtain ⟨β22, β23, β24, rfl, rfl⟩ := hp
 refine GoO.pure (ps_move rfl rfl) ?_
 refine GoO.pure (ps_extract rfl rfl rfl) ?_
 refine GoO.pure (ps_extract rfl rfl rfl) ?_
 refine GoO.pure (ps_assign rfl rfl) ?_
 refine GoO.pure (ps_assign rfl rfl) ?_
 refine GoO.nil ?_
 refine GoK.code ?_
 refine GoC.seq ?_
 refine GoC.region ?_
 refine GoO.pure (ps_move rfl rfl) ?_
 refine GoO.pure (ps_neq rfl rfl rfl) ?_
 refine GoO.nil ?_
 refine GoK.code ?_
 refine GoC.condD rfl (fun h25 => ?_) (fun h25 => ?_)
 replace H := ite_t h25 H
 refine GoC.seq ?_
 refine GoC.drawP (.q 0 (.q 2 (.one 1 (.one 3 (.q 4 (.done)))))) [(8, _, _, _)] follows (by kernel_rfl) (Take.cons _ _ _ _ _ Rem.p4 (Take.nil _)) ?_
 refine GoP.qN rfl (ps_move rfl rfl) ?_
 refine GoP.qN rfl (ps_loadAg rfl At.p4 At.p0 Nat.zero_lt_one rfl rfl) ?_
 have hb := bind_l H; clear H
 obtain ⟨⟨r26, x28⟩, e29, H⟩ := hb
 refine GoP.oneCG rfl trivial (ef_callK rfl (Take.cons _ _ _ _ _ Rem.p0 (Take.cons _ _ _ _ _ Rem.p0 (Take.cons _ _ _ _ _ Rem.p0 (Take.cons _ _ _ _ _ Rem.p0 (Take.nil _))))) (Take.nil _) (store_Net_spec x20 β5 β22 β23 β24 e29) (LendL.cons (Lend.refl _ _) (LendL.nil)) rfl nil_fps) (Take.cons _ _ _ _ _ Rem.p0 (Take.cons _ _ _ _ _ Rem.p0 (Take.cons _ _ _ _ _ Rem.p0 (Take.cons _ _ _ _ _ Rem.p0 (Take.cons _ _ _ _ _ Rem.p0 (Take.nil _)))))) (fun rr HH hp => ?_)
 obtain ⟨β27, β30, β31, β32, rfl, rfl⟩ := hp
 have hb := bind_l H; clear H
 obtain ⟨r33, e34, H⟩ := hb
 refine GoP.oneC rfl trivial (ef_call rfl (Take.nil _) (Take.cons _ _ _ _ _ Rem.p0 (Take.cons _ _ _ _ _ Rem.p5 (Take.nil _))) (weirkeep_sameNet_spec r26 r10 e34) (LendL.cons (Lend.agA ⟨⟨⟨⟨trivial, Lend.refl _ _⟩, Lend.refl _ _⟩, Lend.refl _ _⟩, Lend.all' At.p0 (by first | rfl | omega | (simp only [subl_length, cpl_length, List.length_set, List.length_append, List.length_cons, List.length_nil, List.length_replicate, row_len] <;> first | rfl | omega)) rfl⟩) (LendL.cons (Lend.agA ⟨⟨⟨⟨trivial, Lend.refl _ _⟩, Lend.refl _ _⟩, Lend.refl _ _⟩, Lend.all' At.p1 (by first | rfl | omega | (simp only [subl_length, cpl_length, List.length_set, List.length_append, List.length_cons, List.length_nil, List.length_replicate, row_len] <;> first | rfl | omega)) rfl⟩) (LendL.nil))) rfl (weirkeep_sameNet_I (r33))) (Take.cons _ _ _ _ _ Rem.p5 (Take.nil _)) (fun rr HH hp => ?_)
 obtain ⟨rfl, rfl⟩ := hp
 refine GoP.qN rfl (ps_assign rfl rfl) ?_
 refine GoP.done ?_
 refine GoK.code ?_
 obtain rfl := Option.some.inj H
 exact GoC.retL (ds := [.v (.bool r33)]) Try.results4 (ResL.cons (ResD.tmp rfl) (ResL.nil)) (Take.nil _) ⟨rfl, rfl⟩
 replace H := ite_f h25 H
 refine GoC.skip ?_
 refine GoK.code ?_
 refine GoC.seq ?_
 refine GoC.seq ?_
 refine GoC.region ?_
 refine GoO.pure (ps_move rfl rfl) ?_
 refine GoO.pure (ps_len rfl (by constructor) rfl) ?_
 refine GoO.lenLe (n := m.length) (x := .tmp 36) rfl (by constructor) sl_lenLe (fun ml35 => ?_)
 refine GoO.pure (ps_move rfl rfl) ?_
 refine GoO.nil ?_
 refine GoK.code ?_
 have hb := bind_l H; clear H
 obtain ⟨z43, hl63, HK40⟩ := hb
 refine GoC.blockJ [(2, .v (.string name)), (8, .ptr β17 4 0 0)] [.one β17 28 4 (st1 (nth [.v (.int .i64 r10.n), .v (.int .i64 r10.s), .v (.int .i64 r10.t), .own β11 3 0 r10.as.length])), .one β11 45 3 (row r10.as)] (fun v h => ∃ (β37 : BK) (β38 : BK) (β39 : BK), v = [(7, .ptr β5 8 0 0)] ∧ h = [.one β5 62 8 (st1 (nth [.v (.int .i64 z43.now.net.n), .v (.int .i64 z43.now.net.s), .v (.int .i64 z43.now.net.t), slD z43.now.net.as, slD z43.now.flow, .own β37 5 0 z43.old.length, .own β38 1 0 z43.names.length, .own β39 5 0 z43.saved.length])), .one β37 58 5 (row z43.old), .one β38 9 1 (row z43.names), .one β39 58 5 (row z43.saved)]) ?_ ?_
 refine GoC.loopJ [(2, _), (8, _), (36, _), (37, _)] [.one β17 28 4 (st1 (nth [.v (.int .i64 r10.n), .v (.int .i64 r10.s), .v (.int .i64 r10.t), .own β11 3 0 r10.as.length])), .one β11 45 3 (row r10.as)] (fun mQ v h => ∃ (k44 : Nat) (z36 : Store) (β37 : BK) (β38 : BK) (β39 : BK), (k44 + mQ = m.length ∧ forN (weirkeep_StoreSaves_B1 m name) mQ k44 z36 = some z43) ∧ v = [(38, .v (.int .i64 ((k44 : Nat) : Int))), (7, .ptr β5 8 0 0)] ∧ h = [.one β5 62 8 (st1 (nth [.v (.int .i64 z36.now.net.n), .v (.int .i64 z36.now.net.s), .v (.int .i64 z36.now.net.t), slD z36.now.net.as, slD z36.now.flow, .own β37 5 0 z36.old.length, .own β38 1 0 z36.names.length, .own β39 5 0 z36.saved.length])), .one β37 58 5 (row z36.old), .one β38 9 1 (row z36.names), .one β39 58 5 (row z36.saved)]) m.length ⟨_, _, β22, β23, β24, ⟨by omega, hl63⟩, rfl, rfl⟩ (EnvD.eq rfl (EnvD.eq rfl (EnvD.eq rfl (EnvD.eq rfl (EnvD.eq rfl (EnvD.eq rfl (EnvD.nil))))))) (TkD.cons _ _ _ _ _ Rem.p0 (HLe.st ⟨⟨⟨⟨⟨⟨⟨⟨trivial, DLe.refl _⟩, DLe.refl _⟩, DLe.refl _⟩, DLe.refl _⟩, DLe.refl _⟩, DLe.len (by first | rfl | omega | (simp only [row_len, gridC_len, rowO_len] <;> first | rfl | omega))⟩, DLe.len (by first | rfl | omega | (simp only [row_len, gridC_len, rowO_len] <;> first | rfl | omega))⟩, DLe.len (by first | rfl | omega | (simp only [row_len, gridC_len, rowO_len] <;> first | rfl | omega))⟩) (TkD.cons _ _ _ _ _ Rem.p0 (HLe.refl _) (TkD.cons _ _ _ _ _ Rem.p0 (HLe.refl _) (TkD.cons _ _ _ _ _ Rem.p0 (HLe.refl _) (TkD.cons _ _ _ _ _ Rem.p0 (HLe.st ⟨⟨⟨⟨trivial, DLe.refl _⟩, DLe.refl _⟩, DLe.refl _⟩, DLe.refl _⟩) (TkD.cons _ _ _ _ _ Rem.p0 (HLe.refl _) (TkD.nil _))))))) ?_
 rintro m45 v h ⟨k44, z36, β37, β38, β39, ⟨hkk44, hF41⟩, rfl, rfl⟩
 refine GoC.seq ?_
 refine GoC.region ?_
 refine GoO.pure (ps_lss rfl rfl rfl) ?_
 refine GoO.nil ?_
 refine GoK.code ?_
 refine GoC.seq ?_
 refine GoC.condD rfl (fun (hk44 : (k44 : Int) < ((m.length : Nat) : Int)) => ?_) (fun (hk44 : ¬ (k44 : Int) < ((m.length : Nat) : Int)) => ?_)
 obtain ⟨m45', rfl⟩ : ∃ x, m45 = x + 1 := ⟨m45 - 1, by omega⟩
 have hb := bind_l hF41; clear hF41
 obtain ⟨qrm45, H, hF41⟩ := hb
 have hnk44 : k44 < m.length := by omega
 have hIk44 : InI ((k44 : Int) + 1) := inI_len hk44 ml35
 refine GoC.skip ?_
 refine GoK.code ?_
 refine GoC.seq ?_
 refine GoC.block ?_
 refine GoC.seq ?_
 refine GoC.region ?_
 refine GoO.pure (ps_indexAddrRN rfl rfl hnk44 rfl) ?_
 refine GoO.pure (ps_loadAgR rfl hnk44 rfl rfl) ?_
 refine GoO.effB (ef_alloc rfl) (fun β46 => ?_)
 refine GoO.eff1 (ef_storeAg rfl rfl At.p0 upd_whole Nat.zero_lt_one rfl) ?_
 refine GoO.nil ?_
 refine GoK.code ?_
 refine GoC.seq ?_
 refine GoC.region ?_
 refine GoO.pure (ps_fieldAddr rfl rfl) ?_
 refine GoO.pure (ps_load rfl At.p0 At.p0 Nat.zero_lt_one rfl rfl) ?_
 refine GoO.pure (ps_neq rfl rfl rfl) ?_
 refine GoO.pure (ps_move rfl rfl) ?_
 refine GoO.guardE rfl rfl rfl rfl (fun h47 => ?_) (fun h47 => ?_)
 replace H := ite_f h47 H
 refine GoO.pure (ps_fieldAddr rfl rfl) ?_
 refine GoO.guardT rfl rfl rfl ?_
 refine GoO.pure (ps_load rfl At.p0 At.p0 Nat.zero_lt_one rfl rfl) ?_
 refine GoO.guardT rfl rfl rfl ?_
 refine GoO.pure (ps_move rfl rfl) ?_
 refine GoO.guardT rfl rfl rfl ?_
 refine GoO.pure (ps_neqStr rfl rfl rfl) ?_
 refine GoO.pure (ps_pickF rfl rfl rfl) ?_
 refine GoO.nil ?_
 refine GoK.code ?_
 refine GoC.condD rfl (fun h48 => ?_) (fun h48 => ?_)
 replace H := ite_t h48 H
 refine GoC.region ?_
 refine GoO.pure (ps_move rfl rfl) ?_
 refine GoO.pure (ps_loadAg rfl At.p0 At.p0 Nat.zero_lt_one rfl rfl) ?_
 have hb := bind_l H; clear H
 obtain ⟨⟨r49, r50, x51⟩, e52, H⟩ := hb
 refine GoO.callF rfl (Take.cons _ _ _ _ _ Rem.p1 (Take.cons _ _ _ _ _ Rem.p1 (Take.cons _ _ _ _ _ Rem.p1 (Take.cons _ _ _ _ _ Rem.p1 (Take.nil _))))) (Take.nil _) (store_Do_spec z36 (m.getD k44 El.d) β5 β37 β38 β39 e52) (LendL.cons (Lend.refl _ _) (LendL.cons (Lend.agA ⟨⟨⟨⟨⟨trivial, Lend.refl _ _⟩, Lend.refl _ _⟩, Lend.refl _ _⟩, Lend.refl _ _⟩, Lend.refl _ _⟩) (LendL.nil))) rfl nil_fps (fun rr HH hp => ?_)
 obtain ⟨β53, β54, β55, rfl, rfl⟩ := hp
 refine GoO.nil ?_
 refine GoK.blk ?_
 refine GoK.code ?_
 refine GoC.region ?_
 refine GoO.pure (ps_add rfl rfl rfl hIk44) ?_
 refine GoO.pure (ps_move rfl rfl) ?_
 refine GoO.nil ?_
 obtain rfl := Option.some.inj H
 exact GoK.againJ m45' (by omega) ⟨_, _, β53, β54, β55, ⟨by omega, hF41⟩, rfl, rfl⟩ (EnvD.eq rfl (EnvD.eq rfl (EnvD.eq rfl (EnvD.eq rfl (EnvD.eq rfl (EnvD.eq rfl (EnvD.nil))))))) (TkD.cons _ _ _ _ _ Rem.p0 (HLe.st ⟨⟨⟨⟨⟨⟨⟨⟨trivial, DLe.refl _⟩, DLe.refl _⟩, DLe.refl _⟩, DLe.refl _⟩, DLe.refl _⟩, DLe.len (by first | rfl | omega | (simp only [row_len, gridC_len, rowO_len] <;> first | rfl | omega))⟩, DLe.len (by first | rfl | omega | (simp only [row_len, gridC_len, rowO_len] <;> first | rfl | omega))⟩, DLe.len (by first | rfl | omega | (simp only [row_len, gridC_len, rowO_len] <;> first | rfl | omega))⟩) (TkD.cons _ _ _ _ _ Rem.p0 (HLe.refl _) (TkD.cons _ _ _ _ _ Rem.p0 (HLe.refl _) (TkD.cons _ _ _ _ _ Rem.p0 (HLe.refl _) (TkD.cons _ _ _ _ _ Rem.p1 (HLe.st ⟨⟨⟨⟨trivial, DLe.refl _⟩, DLe.refl _⟩, DLe.refl _⟩, DLe.refl _⟩) (TkD.cons _ _ _ _ _ Rem.p1 (HLe.refl _) (TkD.nil _)))))))
 replace H := ite_f h48 H
 refine GoC.skip ?_
 refine GoK.blk ?_
 refine GoK.code ?_
 refine GoC.region ?_
 refine GoO.pure (ps_add rfl rfl rfl hIk44) ?_
 refine GoO.pure (ps_move rfl rfl) ?_
 refine GoO.nil ?_
 obtain rfl := Option.some.inj H
 exact GoK.againJ m45' (by omega) ⟨_, _, β37, β38, β39, ⟨by omega, hF41⟩, rfl, rfl⟩ (EnvD.eq rfl (EnvD.eq rfl (EnvD.eq rfl (EnvD.eq rfl (EnvD.eq rfl (EnvD.eq rfl (EnvD.nil))))))) (TkD.cons _ _ _ _ _ Rem.p1 (HLe.st ⟨⟨⟨⟨⟨⟨⟨⟨trivial, DLe.refl _⟩, DLe.refl _⟩, DLe.refl _⟩, DLe.refl _⟩, DLe.refl _⟩, DLe.refl _⟩, DLe.refl _⟩, DLe.refl _⟩) (TkD.cons _ _ _ _ _ Rem.p1 (HLe.refl _) (TkD.cons _ _ _ _ _ Rem.p1 (HLe.refl _) (TkD.cons _ _ _ _ _ Rem.p1 (HLe.refl _) (TkD.cons _ _ _ _ _ Rem.p1 (HLe.st ⟨⟨⟨⟨trivial, DLe.refl _⟩, DLe.refl _⟩, DLe.refl _⟩, DLe.refl _⟩) (TkD.cons _ _ _ _ _ Rem.p1 (HLe.refl _) (TkD.nil _)))))))
 replace H := ite_t h47 H
 refine GoO.guardF rfl rfl rfl rfl ?_
 refine GoO.guardF rfl rfl rfl rfl ?_
 refine GoO.guardF rfl rfl rfl rfl ?_
 refine GoO.pure (ps_pickT rfl rfl rfl) ?_
 refine GoO.nil ?_
 refine GoK.code ?_
 refine GoC.condT rfl ?_
 refine GoC.region ?_
 refine GoO.pure (ps_move rfl rfl) ?_
 refine GoO.pure (ps_loadAg rfl At.p0 At.p0 Nat.zero_lt_one rfl rfl) ?_
 have hb := bind_l H; clear H
 obtain ⟨⟨r56, r57, x58⟩, e59, H⟩ := hb
 refine GoO.callF rfl (Take.cons _ _ _ _ _ Rem.p1 (Take.cons _ _ _ _ _ Rem.p1 (Take.cons _ _ _ _ _ Rem.p1 (Take.cons _ _ _ _ _ Rem.p1 (Take.nil _))))) (Take.nil _) (store_Do_spec z36 (m.getD k44 El.d) β5 β37 β38 β39 e59) (LendL.cons (Lend.refl _ _) (LendL.cons (Lend.agA ⟨⟨⟨⟨⟨trivial, Lend.refl _ _⟩, Lend.refl _ _⟩, Lend.refl _ _⟩, Lend.refl _ _⟩, Lend.refl _ _⟩) (LendL.nil))) rfl nil_fps (fun rr HH hp => ?_)
 obtain ⟨β60, β61, β62, rfl, rfl⟩ := hp
 refine GoO.nil ?_
 refine GoK.blk ?_
 refine GoK.code ?_
 refine GoC.region ?_
 refine GoO.pure (ps_add rfl rfl rfl hIk44) ?_
 refine GoO.pure (ps_move rfl rfl) ?_
 refine GoO.nil ?_
 obtain rfl := Option.some.inj H
 exact GoK.againJ m45' (by omega) ⟨_, _, β60, β61, β62, ⟨by omega, hF41⟩, rfl, rfl⟩ (EnvD.eq rfl (EnvD.eq rfl (EnvD.eq rfl (EnvD.eq rfl (EnvD.eq rfl (EnvD.eq rfl (EnvD.nil))))))) (TkD.cons _ _ _ _ _ Rem.p0 (HLe.st ⟨⟨⟨⟨⟨⟨⟨⟨trivial, DLe.refl _⟩, DLe.refl _⟩, DLe.refl _⟩, DLe.refl _⟩, DLe.refl _⟩, DLe.len (by first | rfl | omega | (simp only [row_len, gridC_len, rowO_len] <;> first | rfl | omega))⟩, DLe.len (by first | rfl | omega | (simp only [row_len, gridC_len, rowO_len] <;> first | rfl | omega))⟩, DLe.len (by first | rfl | omega | (simp only [row_len, gridC_len, rowO_len] <;> first | rfl | omega))⟩) (TkD.cons _ _ _ _ _ Rem.p0 (HLe.refl _) (TkD.cons _ _ _ _ _ Rem.p0 (HLe.refl _) (TkD.cons _ _ _ _ _ Rem.p0 (HLe.refl _) (TkD.cons _ _ _ _ _ Rem.p1 (HLe.st ⟨⟨⟨⟨trivial, DLe.refl _⟩, DLe.refl _⟩, DLe.refl _⟩, DLe.refl _⟩) (TkD.cons _ _ _ _ _ Rem.p1 (HLe.refl _) (TkD.nil _)))))))
 obtain rfl : m45 = 0 := by omega
 refine GoC.exit rfl ?_
 cases hF41
 exact GoK.meet ⟨β37, β38, β39, rfl, rfl⟩ (EnvD.eq rfl (EnvD.eq rfl (EnvD.eq rfl (EnvD.nil)))) (TkD.cons _ _ _ _ _ Rem.p0 (HLe.st ⟨⟨⟨⟨⟨⟨⟨⟨trivial, DLe.refl _⟩, DLe.refl _⟩, DLe.refl _⟩, DLe.refl _⟩, DLe.refl _⟩, DLe.len (by first | rfl | omega | (simp only [row_len, gridC_len, rowO_len] <;> first | rfl | omega))⟩, DLe.len (by first | rfl | omega | (simp only [row_len, gridC_len, rowO_len] <;> first | rfl | omega))⟩, DLe.len (by first | rfl | omega | (simp only [row_len, gridC_len, rowO_len] <;> first | rfl | omega))⟩) (TkD.cons _ _ _ _ _ Rem.p0 (HLe.refl _) (TkD.cons _ _ _ _ _ Rem.p0 (HLe.refl _) (TkD.cons _ _ _ _ _ Rem.p0 (HLe.refl _) (TkD.cons _ _ _ _ _ Rem.p0 (HLe.st ⟨⟨⟨⟨trivial, DLe.refl _⟩, DLe.refl _⟩, DLe.refl _⟩, DLe.refl _⟩) (TkD.cons _ _ _ _ _ Rem.p0 (HLe.refl _) (TkD.nil _)))))))
 rintro v h ⟨β37, β38, β39, rfl, rfl⟩
 have H := HK40; clear HK40
 refine GoK.code ?_
 refine GoC.seq ?_
 refine GoC.region ?_
 refine GoO.pure (ps_move rfl rfl) ?_
 refine GoO.pure (ps_move rfl rfl) ?_
 refine GoO.pure (ps_build (Parts.cons _ _ _ _ _ _ _ _ FdP.of (Part.one _ rfl rfl) rfl rfl (Parts.cons _ _ _ _ _ _ _ _ FdP.of (Part.one _ rfl rfl) rfl rfl (Parts.nil _))) rfl) ?_
 have hb := bind_l H; clear H
 obtain ⟨⟨r64, r65, x66⟩, e67, H⟩ := hb
 refine GoO.callF rfl (Take.cons _ _ _ _ _ Rem.p0 (Take.cons _ _ _ _ _ Rem.p0 (Take.cons _ _ _ _ _ Rem.p0 (Take.cons _ _ _ _ _ Rem.p0 (Take.nil _))))) (Take.nil _) (store_Do_spec (⟨(⟨(⟨z43.now.net.n, z43.now.net.s, z43.now.net.t, z43.now.net.as⟩ : Net), z43.now.flow⟩ : StoreState), z43.old, z43.names, z43.saved⟩ : Store) (⟨8, 0, 0, 0, name⟩ : Deed) β5 β37 β38 β39 e67) (LendL.cons (Lend.refl _ _) (LendL.cons (Lend.agA ⟨⟨⟨⟨⟨trivial, Lend.refl _ _⟩, Lend.refl _ _⟩, Lend.refl _ _⟩, Lend.refl _ _⟩, Lend.refl _ _⟩) (LendL.nil))) rfl nil_fps (fun rr HH hp => ?_)
 obtain ⟨β68, β69, β70, rfl, rfl⟩ := hp
 refine GoO.pure (ps_move rfl rfl) ?_
 refine GoO.pure (ps_extract rfl rfl rfl) ?_
 refine GoO.pure (ps_extract rfl rfl rfl) ?_
 refine GoO.pure (ps_assign rfl rfl) ?_
 refine GoO.pure (ps_assign rfl rfl) ?_
 refine GoO.nil ?_
 refine GoK.code ?_
 refine GoC.seq ?_
 refine GoC.drawP (.q 0 (.q 1 (.q 2 (.q 3 (.q 5 (.one 4 (.one 6 (.q 7 (.q 8 (.done)))))))))) [(8, _, _, _)] follows (by kernel_rfl) (Take.cons _ _ _ _ _ Rem.p4 (Take.nil _)) ?_
 refine GoP.qN rfl (ps_move rfl rfl) ?_
 refine GoP.qN rfl (ps_eql rfl rfl rfl) ?_
 refine GoP.qN rfl (ps_move rfl rfl) ?_
 refine GoP.decideD 64 rfl (fun h71 => ?_) (fun h71 => ?_)
 replace H := ite_t h71 H
 refine GoP.qT rfl rfl rfl rfl (ps_move rfl rfl) ?_
 refine GoP.qT rfl rfl rfl rfl (ps_loadAg rfl At.p4 At.p0 Nat.zero_lt_one rfl rfl) ?_
 have hb := bind_l H; clear H
 obtain ⟨⟨r72, x74⟩, e75, H⟩ := hb
 refine GoP.oneCG rfl ⟨_, rfl, rfl, rfl⟩ (ef_callK rfl (Take.cons _ _ _ _ _ Rem.p0 (Take.cons _ _ _ _ _ Rem.p0 (Take.cons _ _ _ _ _ Rem.p0 (Take.cons _ _ _ _ _ Rem.p0 (Take.nil _))))) (Take.nil _) (store_Net_spec x66 β5 β68 β69 β70 e75) (LendL.cons (Lend.refl _ _) (LendL.nil)) rfl nil_fps) (Take.cons _ _ _ _ _ Rem.p0 (Take.cons _ _ _ _ _ Rem.p0 (Take.cons _ _ _ _ _ Rem.p0 (Take.cons _ _ _ _ _ Rem.p0 (Take.cons _ _ _ _ _ Rem.p0 (Take.nil _)))))) (fun rr HH hp => ?_)
 obtain ⟨β73, β76, β77, β78, rfl, rfl⟩ := hp
 have hb := bind_l H; clear H
 obtain ⟨r79, e80, H⟩ := hb
 refine GoP.oneC rfl ⟨_, rfl, rfl, rfl⟩ (ef_call rfl (Take.nil _) (Take.cons _ _ _ _ _ Rem.p0 (Take.cons _ _ _ _ _ Rem.p5 (Take.nil _))) (weirkeep_sameNet_spec r72 r10 e80) (LendL.cons (Lend.agA ⟨⟨⟨⟨trivial, Lend.refl _ _⟩, Lend.refl _ _⟩, Lend.refl _ _⟩, Lend.all' At.p0 (by first | rfl | omega | (simp only [subl_length, cpl_length, List.length_set, List.length_append, List.length_cons, List.length_nil, List.length_replicate, row_len] <;> first | rfl | omega)) rfl⟩) (LendL.cons (Lend.agA ⟨⟨⟨⟨trivial, Lend.refl _ _⟩, Lend.refl _ _⟩, Lend.refl _ _⟩, Lend.all' At.p1 (by first | rfl | omega | (simp only [subl_length, cpl_length, List.length_set, List.length_append, List.length_cons, List.length_nil, List.length_replicate, row_len] <;> first | rfl | omega)) rfl⟩) (LendL.nil))) rfl (weirkeep_sameNet_I (r79))) (Take.cons _ _ _ _ _ Rem.p5 (Take.nil _)) (fun rr HH hp => ?_)
 obtain ⟨rfl, rfl⟩ := hp
 refine GoP.qN rfl (ps_pickT rfl rfl rfl) ?_
 refine GoP.qN rfl (ps_assign rfl rfl) ?_
 refine GoP.done ?_
 refine GoK.code ?_
 obtain rfl := Option.some.inj H
 exact GoC.retL (ds := [.v (.bool r79)]) Try.results4 (ResL.cons (ResD.tmp rfl) (ResL.nil)) (Take.nil _) ⟨rfl, rfl⟩
 replace H := ite_f h71 H
 refine GoP.qF rfl rfl rfl rfl rfl ?_
 refine GoP.qF rfl rfl rfl rfl rfl ?_
 refine GoP.oneF rfl rfl rfl rfl rfl ?_
 refine GoP.oneF rfl rfl rfl rfl rfl ?_
 refine GoP.qN rfl (ps_pickF rfl rfl rfl) ?_
 refine GoP.qN rfl (ps_assign rfl rfl) ?_
 refine GoP.done ?_
 refine GoK.code ?_
 obtain rfl := Option.some.inj H
 exact GoC.retL (ds := [.v (.bool false)]) Try.results4 (ResL.cons (ResD.tmp rfl) (ResL.nil)) (Take.nil _) ⟨rfl, rfl⟩

end Go.Proofs.Ytfnldmbomampiaa
