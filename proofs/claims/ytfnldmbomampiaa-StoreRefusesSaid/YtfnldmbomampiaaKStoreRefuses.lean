/- The functions weirkeep.StoreRefuses, told as plain functions, and that the code does as they say. -/
import Derived.Test.YtfnldmbomampiaaTys
import Derived.Test.YtfnldmbomampiaaDat
import Derived.Test.YtfnldmbomampiaaGkeep
import Derived.Test.YtfnldmbomampiaaGstore
namespace Go.Proofs.Ytfnldmbomampiaa
open Go Go.Proofs.Ytfnldmbomampiaa.Sx
set_option linter.unusedVariables false
set_option linter.unusedSimpArgs false
def weirkeep_StoreRefuses_B1 (m : (List Deed)) : Nat → (Store × Store) → Option (Ct (Store × Store) (Bool)) := fun k39 (z26, z30) =>
 (store_Do_F z26 (m.getD k39 El.d)).bind fun (r42, r43, x44) =>
 (store_Do_F z30 (m.getD k39 El.d)).bind fun (r49, r50, x51) =>
 if r42 ≠ r49 then
  some (.ret false)
 else
  if r43 ≠ r50 then
   some (.ret false)
  else
   some (.go (x44, x51))
def weirkeep_StoreRefuses_F (l : (List Deed)) (d_ : Deed) (m : (List Deed)) : Option (Bool) :=
 (weirkeep_stores_F).bind fun r2 =>
 if (!r2) = true then
  some false
 else
  (weirkeep_worked_F l).bind fun r5 =>
  (weirkeep_worked_F l).bind fun r11 =>
  (store_Do_F r5 d_).bind fun (r17, r18, x19) =>
  if r18 = 0 then
   some true
  else
   (forC (weirkeep_StoreRefuses_B1 m) m.length 0 (x19, r11)).bind fun q => match q with
   | .go (z37, z38) =>
    (store_Net_F (⟨(⟨(⟨z37.now.net.n, z37.now.net.s, z37.now.net.t, z37.now.net.as⟩ : Net), z37.now.flow⟩ : StoreState), z37.old, z37.names, z37.saved⟩ : Store)).bind fun (r59, x61) =>
    (store_Net_F (⟨(⟨(⟨z38.now.net.n, z38.now.net.s, z38.now.net.t, z38.now.net.as⟩ : Net), z38.now.flow⟩ : StoreState), z38.old, z38.names, z38.saved⟩ : Store)).bind fun (r66, x68) =>
    (weirkeep_sameNet_F r59 r66).bind fun r73 =>
    some r73
   | .ret x => some x
def weirkeep_StoreRefuses_P (out : Bool) (d : D) (H : List HL) : Prop := d = .v (.bool out) ∧ H = []
theorem weirkeep_StoreRefuses_I (out : Bool) : IndepP (weirkeep_StoreRefuses_P out) := IndepP.of (by rintro _ _ ⟨rfl, rfl⟩; exact ⟨inferInstance, inferInstance⟩)
set_option maxRecDepth 100000 in
set_option maxHeartbeats 4000000 in
theorem weirkeep_StoreRefuses_spec (l : (List Deed)) (d_ : Deed) (m : (List Deed)) {out : Bool} (H : weirkeep_StoreRefuses_F l d_ m = some out) : Does Try.prog 6 [slD l, .ag 5 (nth [.v (.int .i64 d_.kind), .v (.int .i64 d_.a), .v (.int .i64 d_.b), .v (.int .i64 d_.n), .v (.string d_.name)]), slD m] [] (weirkeep_StoreRefuses_P out) := by
 unfold weirkeep_StoreRefuses_F at H
 refine Does.intro Try.func6 rfl Try.ntmps6 rfl fun w0 I0 => ?_
 refine GoC.seq ?_
 refine GoC.region ?_
 refine GoO.effB (ef_boxAg rfl rfl) (fun β1 => ?_)
 refine GoO.pure (ps_assign rfl rfl) ?_
 refine GoO.nil ?_
 refine GoK.code ?_
 refine GoC.seq ?_
 refine GoC.seq ?_
 refine GoC.region ?_
 have hb := bind_l H; clear H
 obtain ⟨r2, e3, H⟩ := hb
 refine GoO.effC (ef_call rfl (Take.nil _) (Take.nil _) (weirkeep_stores_spec e3) (LendL.nil) rfl (weirkeep_stores_I (r2))) (fun rr HH hp => ?_)
 obtain ⟨rfl, rfl⟩ := hp
 refine GoO.pure (ps_not rfl rfl) ?_
 refine GoO.nil ?_
 refine GoK.code ?_
 refine GoC.cond rfl (fun h4 => ?_) (fun h4 => ?_)
 replace H := itb_t h4 H
 refine GoC.seq ?_
 refine GoC.region ?_
 refine GoO.pure (ps_assign rfl rfl) ?_
 refine GoO.nil ?_
 refine GoK.code ?_
 obtain rfl := Option.some.inj H
 exact GoC.retL (ds := [.v (.bool false)]) Try.results6 (ResL.cons (ResD.tmp rfl) (ResL.nil)) (Take.nil _) ⟨rfl, rfl⟩
 replace H := itb_f h4 H
 refine GoC.skip ?_
 refine GoK.code ?_
 refine GoC.seq ?_
 refine GoC.region ?_
 refine GoO.pure (ps_move rfl rfl) ?_
 have hb := bind_l H; clear H
 obtain ⟨r5, e10, H⟩ := hb
 refine GoO.callF rfl (Take.nil _) (Take.nil _) (weirkeep_worked_spec l e10) (LendL.cons (Lend.refl _ _) (LendL.nil)) rfl nil_fps (fun rr HH hp => ?_)
 obtain ⟨β6, β7, β8, β9, rfl, rfl⟩ := hp
 refine GoO.pure (ps_move rfl rfl) ?_
 have hb := bind_l H; clear H
 obtain ⟨r11, e16, H⟩ := hb
 refine GoO.callF rfl (Take.nil _) (Take.nil _) (weirkeep_worked_spec l e16) (LendL.cons (Lend.refl _ _) (LendL.nil)) rfl nil_fps (fun rr HH hp => ?_)
 obtain ⟨β12, β13, β14, β15, rfl, rfl⟩ := hp
 refine GoO.pure (ps_assign rfl rfl) ?_
 refine GoO.pure (ps_assign rfl rfl) ?_
 refine GoO.nil ?_
 refine GoK.code ?_
 refine GoC.seq ?_
 refine GoC.seq ?_
 refine GoC.region ?_
 refine GoO.pure (ps_move rfl rfl) ?_
 refine GoO.pure (ps_eqlPtr rfl rfl rfl) ?_
 refine GoO.pure (ps_move rfl rfl) ?_
 refine GoO.guardT rfl rfl rfl ?_
 refine GoO.pure (ps_move rfl rfl) ?_
 refine GoO.guardT rfl rfl rfl ?_
 refine GoO.pure (ps_eqlPtr rfl rfl rfl) ?_
 refine GoO.pure (ps_pickF rfl rfl rfl) ?_
 refine GoO.nil ?_
 refine GoK.code ?_
 refine GoC.condF rfl ?_
 refine GoC.skip ?_
 refine GoK.code ?_
 refine GoC.seq ?_
 refine GoC.seq ?_
 refine GoC.region ?_
 refine GoO.pure (ps_move rfl rfl) ?_
 refine GoO.pure (ps_loadAg rfl At.p8 At.p8 Nat.zero_lt_one rfl rfl) ?_
 have hb := bind_l H; clear H
 obtain ⟨⟨r17, r18, x19⟩, e20, H⟩ := hb
 refine GoO.callF rfl (Take.cons _ _ _ _ _ Rem.p4 (Take.cons _ _ _ _ _ Rem.p4 (Take.cons _ _ _ _ _ Rem.p4 (Take.cons _ _ _ _ _ Rem.p4 (Take.nil _))))) (Take.nil _) (store_Do_spec r5 d_ β6 β7 β8 β9 e20) (LendL.cons (Lend.refl _ _) (LendL.cons (Lend.agA ⟨⟨⟨⟨⟨trivial, Lend.refl _ _⟩, Lend.refl _ _⟩, Lend.refl _ _⟩, Lend.refl _ _⟩, Lend.refl _ _⟩) (LendL.nil))) rfl nil_fps (fun rr HH hp => ?_)
 obtain ⟨β21, β22, β23, rfl, rfl⟩ := hp
 refine GoO.pure (ps_move rfl rfl) ?_
 refine GoO.pure (ps_extract rfl rfl rfl) ?_
 refine GoO.pure (ps_extract rfl rfl rfl) ?_
 refine GoO.pure (ps_assign rfl rfl) ?_
 refine GoO.pure (ps_assign rfl rfl) ?_
 refine GoO.nil ?_
 refine GoK.code ?_
 refine GoC.seq ?_
 refine GoC.region ?_
 refine GoO.pure (ps_move rfl rfl) ?_
 refine GoO.pure (ps_eql rfl rfl rfl) ?_
 refine GoO.nil ?_
 refine GoK.code ?_
 refine GoC.condD rfl (fun h24 => ?_) (fun h24 => ?_)
 replace H := ite_t h24 H
 refine GoC.seq ?_
 refine GoC.region ?_
 refine GoO.pure (ps_assign rfl rfl) ?_
 refine GoO.nil ?_
 refine GoK.code ?_
 obtain rfl := Option.some.inj H
 exact GoC.retL (ds := [.v (.bool true)]) Try.results6 (ResL.cons (ResD.tmp rfl) (ResL.nil)) (Take.nil _) ⟨rfl, rfl⟩
 replace H := ite_f h24 H
 refine GoC.skip ?_
 refine GoK.code ?_
 refine GoC.seq ?_
 refine GoC.seq ?_
 refine GoC.region ?_
 refine GoO.pure (ps_move rfl rfl) ?_
 refine GoO.pure (ps_len rfl (by constructor) rfl) ?_
 refine GoO.lenLe (n := m.length) (x := .tmp 37) rfl (by constructor) sl_lenLe (fun ml25 => ?_)
 refine GoO.pure (ps_move rfl rfl) ?_
 refine GoO.nil ?_
 refine GoK.code ?_
 have hb := bind_l H; clear H
 obtain ⟨q36, hl58, HK34⟩ := hb
 refine GoC.blockJ [] [.one β1 31 5 (st1 (nth [.v (.int .i64 d_.kind), .v (.int .i64 d_.a), .v (.int .i64 d_.b), .v (.int .i64 d_.n), .v (.string d_.name)]))] (fun v h => ∃ (z37 : Store) (z38 : Store) (β27 : BK) (β28 : BK) (β29 : BK) (β31 : BK) (β32 : BK) (β33 : BK), q36 = .go (z37, z38) ∧ v = [(7, .ptr β6 8 0 0), (8, .ptr β12 8 0 0)] ∧ h = [.one β6 62 8 (st1 (nth [.v (.int .i64 z37.now.net.n), .v (.int .i64 z37.now.net.s), .v (.int .i64 z37.now.net.t), slD z37.now.net.as, slD z37.now.flow, .own β27 5 0 z37.old.length, .own β28 1 0 z37.names.length, .own β29 5 0 z37.saved.length])), .one β27 58 5 (row z37.old), .one β28 9 1 (row z37.names), .one β29 58 5 (row z37.saved), .one β12 62 8 (st1 (nth [.v (.int .i64 z38.now.net.n), .v (.int .i64 z38.now.net.s), .v (.int .i64 z38.now.net.t), slD z38.now.net.as, slD z38.now.flow, .own β31 5 0 z38.old.length, .own β32 1 0 z38.names.length, .own β33 5 0 z38.saved.length])), .one β31 58 5 (row z38.old), .one β32 9 1 (row z38.names), .one β33 58 5 (row z38.saved)]) ?_ ?_
 refine GoC.loopJ [(37, _), (38, _)] [.one β1 31 5 (st1 (nth [.v (.int .i64 d_.kind), .v (.int .i64 d_.a), .v (.int .i64 d_.b), .v (.int .i64 d_.n), .v (.string d_.name)]))] (fun mQ v h => ∃ (k39 : Nat) (z26 : Store) (z30 : Store) (β27 : BK) (β28 : BK) (β29 : BK) (β31 : BK) (β32 : BK) (β33 : BK), (k39 + mQ = m.length ∧ forC (weirkeep_StoreRefuses_B1 m) mQ k39 (z26, z30) = some q36) ∧ v = [(39, .v (.int .i64 ((k39 : Nat) : Int))), (7, .ptr β6 8 0 0), (8, .ptr β12 8 0 0)] ∧ h = [.one β6 62 8 (st1 (nth [.v (.int .i64 z26.now.net.n), .v (.int .i64 z26.now.net.s), .v (.int .i64 z26.now.net.t), slD z26.now.net.as, slD z26.now.flow, .own β27 5 0 z26.old.length, .own β28 1 0 z26.names.length, .own β29 5 0 z26.saved.length])), .one β27 58 5 (row z26.old), .one β28 9 1 (row z26.names), .one β29 58 5 (row z26.saved), .one β12 62 8 (st1 (nth [.v (.int .i64 z30.now.net.n), .v (.int .i64 z30.now.net.s), .v (.int .i64 z30.now.net.t), slD z30.now.net.as, slD z30.now.flow, .own β31 5 0 z30.old.length, .own β32 1 0 z30.names.length, .own β33 5 0 z30.saved.length])), .one β31 58 5 (row z30.old), .one β32 9 1 (row z30.names), .one β33 58 5 (row z30.saved)]) m.length ⟨_, _, _, β21, β22, β23, β13, β14, β15, ⟨by omega, hl58⟩, rfl, rfl⟩ (EnvD.eq rfl (EnvD.eq rfl (EnvD.eq rfl (EnvD.eq rfl (EnvD.eq rfl (EnvD.nil)))))) (TkD.cons _ _ _ _ _ Rem.p0 (HLe.st ⟨⟨⟨⟨⟨⟨⟨⟨trivial, DLe.refl _⟩, DLe.refl _⟩, DLe.refl _⟩, DLe.refl _⟩, DLe.refl _⟩, DLe.len (by first | rfl | omega | (simp only [row_len, gridC_len, rowO_len] <;> first | rfl | omega))⟩, DLe.len (by first | rfl | omega | (simp only [row_len, gridC_len, rowO_len] <;> first | rfl | omega))⟩, DLe.len (by first | rfl | omega | (simp only [row_len, gridC_len, rowO_len] <;> first | rfl | omega))⟩) (TkD.cons _ _ _ _ _ Rem.p0 (HLe.refl _) (TkD.cons _ _ _ _ _ Rem.p0 (HLe.refl _) (TkD.cons _ _ _ _ _ Rem.p0 (HLe.refl _) (TkD.cons _ _ _ _ _ Rem.p0 (HLe.st ⟨⟨⟨⟨⟨⟨⟨⟨trivial, DLe.refl _⟩, DLe.refl _⟩, DLe.refl _⟩, DLe.refl _⟩, DLe.refl _⟩, DLe.len (by first | rfl | omega | (simp only [row_len, gridC_len, rowO_len] <;> first | rfl | omega))⟩, DLe.len (by first | rfl | omega | (simp only [row_len, gridC_len, rowO_len] <;> first | rfl | omega))⟩, DLe.len (by first | rfl | omega | (simp only [row_len, gridC_len, rowO_len] <;> first | rfl | omega))⟩) (TkD.cons _ _ _ _ _ Rem.p0 (HLe.refl _) (TkD.cons _ _ _ _ _ Rem.p0 (HLe.refl _) (TkD.cons _ _ _ _ _ Rem.p0 (HLe.refl _) (TkD.cons _ _ _ _ _ Rem.p0 (HLe.st ⟨⟨⟨⟨⟨trivial, DLe.refl _⟩, DLe.refl _⟩, DLe.refl _⟩, DLe.refl _⟩, DLe.refl _⟩) (TkD.nil _)))))))))) ?_
 rintro m40 v h ⟨k39, z26, z30, β27, β28, β29, β31, β32, β33, ⟨hkk39, hF35⟩, rfl, rfl⟩
 refine GoC.seq ?_
 refine GoC.region ?_
 refine GoO.pure (ps_lss rfl rfl rfl) ?_
 refine GoO.nil ?_
 refine GoK.code ?_
 refine GoC.seq ?_
 refine GoC.condD rfl (fun (hk39 : (k39 : Int) < ((m.length : Nat) : Int)) => ?_) (fun (hk39 : ¬ (k39 : Int) < ((m.length : Nat) : Int)) => ?_)
 obtain ⟨m40', rfl⟩ : ∃ x, m40 = x + 1 := ⟨m40 - 1, by omega⟩
 have hb := bind_l hF35; clear hF35
 obtain ⟨qrm40, H, hF35⟩ := hb
 have hnk39 : k39 < m.length := by omega
 have hIk39 : InI ((k39 : Int) + 1) := inI_len hk39 ml25
 refine GoC.skip ?_
 refine GoK.code ?_
 refine GoC.seq ?_
 refine GoC.block ?_
 refine GoC.seq ?_
 refine GoC.region ?_
 refine GoO.pure (ps_indexAddrRN rfl rfl hnk39 rfl) ?_
 refine GoO.pure (ps_loadAgR rfl hnk39 rfl rfl) ?_
 refine GoO.effB (ef_alloc rfl) (fun β41 => ?_)
 refine GoO.eff1 (ef_storeAg rfl rfl At.p0 upd_whole Nat.zero_lt_one rfl) ?_
 refine GoO.nil ?_
 refine GoK.code ?_
 refine GoC.seq ?_
 refine GoC.region ?_
 refine GoO.pure (ps_move rfl rfl) ?_
 refine GoO.pure (ps_loadAg rfl At.p0 At.p0 Nat.zero_lt_one rfl rfl) ?_
 have hb := bind_l H; clear H
 obtain ⟨⟨r42, r43, x44⟩, e45, H⟩ := hb
 refine GoO.callF rfl (Take.cons _ _ _ _ _ Rem.p1 (Take.cons _ _ _ _ _ Rem.p1 (Take.cons _ _ _ _ _ Rem.p1 (Take.cons _ _ _ _ _ Rem.p1 (Take.nil _))))) (Take.nil _) (store_Do_spec z26 (m.getD k39 El.d) β6 β27 β28 β29 e45) (LendL.cons (Lend.refl _ _) (LendL.cons (Lend.agA ⟨⟨⟨⟨⟨trivial, Lend.refl _ _⟩, Lend.refl _ _⟩, Lend.refl _ _⟩, Lend.refl _ _⟩, Lend.refl _ _⟩) (LendL.nil))) rfl nil_fps (fun rr HH hp => ?_)
 obtain ⟨β46, β47, β48, rfl, rfl⟩ := hp
 refine GoO.pure (ps_move rfl rfl) ?_
 refine GoO.pure (ps_extract rfl rfl rfl) ?_
 refine GoO.pure (ps_extract rfl rfl rfl) ?_
 refine GoO.pure (ps_assign rfl rfl) ?_
 refine GoO.pure (ps_assign rfl rfl) ?_
 refine GoO.nil ?_
 refine GoK.code ?_
 refine GoC.seq ?_
 refine GoC.region ?_
 refine GoO.pure (ps_move rfl rfl) ?_
 refine GoO.pure (ps_loadAg rfl At.p4 At.p4 Nat.zero_lt_one rfl rfl) ?_
 have hb := bind_l H; clear H
 obtain ⟨⟨r49, r50, x51⟩, e52, H⟩ := hb
 refine GoO.callF rfl (Take.cons _ _ _ _ _ Rem.p5 (Take.cons _ _ _ _ _ Rem.p5 (Take.cons _ _ _ _ _ Rem.p5 (Take.cons _ _ _ _ _ Rem.p5 (Take.nil _))))) (Take.nil _) (store_Do_spec z30 (m.getD k39 El.d) β12 β31 β32 β33 e52) (LendL.cons (Lend.refl _ _) (LendL.cons (Lend.agA ⟨⟨⟨⟨⟨trivial, Lend.refl _ _⟩, Lend.refl _ _⟩, Lend.refl _ _⟩, Lend.refl _ _⟩, Lend.refl _ _⟩) (LendL.nil))) rfl nil_fps (fun rr HH hp => ?_)
 obtain ⟨β53, β54, β55, rfl, rfl⟩ := hp
 refine GoO.pure (ps_move rfl rfl) ?_
 refine GoO.pure (ps_extract rfl rfl rfl) ?_
 refine GoO.pure (ps_extract rfl rfl rfl) ?_
 refine GoO.pure (ps_assign rfl rfl) ?_
 refine GoO.pure (ps_assign rfl rfl) ?_
 refine GoO.nil ?_
 refine GoK.code ?_
 refine GoC.seq ?_
 refine GoC.region ?_
 refine GoO.pure (ps_move rfl rfl) ?_
 refine GoO.pure (ps_move rfl rfl) ?_
 refine GoO.pure (ps_neq rfl rfl rfl) ?_
 refine GoO.pure (ps_move rfl rfl) ?_
 refine GoO.guardE rfl rfl rfl rfl (fun h56 => ?_) (fun h56 => ?_)
 replace H := ite_f h56 H
 refine GoO.pure (ps_move rfl rfl) ?_
 refine GoO.guardT rfl rfl rfl ?_
 refine GoO.pure (ps_move rfl rfl) ?_
 refine GoO.guardT rfl rfl rfl ?_
 refine GoO.pure (ps_neq rfl rfl rfl) ?_
 refine GoO.pure (ps_pickF rfl rfl rfl) ?_
 refine GoO.nil ?_
 refine GoK.code ?_
 refine GoC.condD rfl (fun h57 => ?_) (fun h57 => ?_)
 replace H := ite_t h57 H
 refine GoC.seq ?_
 refine GoC.region ?_
 refine GoO.pure (ps_assign rfl rfl) ?_
 refine GoO.nil ?_
 refine GoK.code ?_
 obtain rfl := Option.some.inj H
 obtain rfl := Option.some.inj hF35
 obtain rfl := Option.some.inj HK34
 exact GoC.retL (ds := [.v (.bool false)]) Try.results6 (ResL.cons (ResD.tmp rfl) (ResL.nil)) (Take.nil _) ⟨rfl, rfl⟩
 replace H := ite_f h57 H
 refine GoC.skip ?_
 refine GoK.blk ?_
 refine GoK.code ?_
 refine GoC.region ?_
 refine GoO.pure (ps_add rfl rfl rfl hIk39) ?_
 refine GoO.pure (ps_move rfl rfl) ?_
 refine GoO.nil ?_
 obtain rfl := Option.some.inj H
 exact GoK.againJ m40' (by omega) ⟨_, _, _, β46, β47, β48, β53, β54, β55, ⟨by omega, hF35⟩, rfl, rfl⟩ (EnvD.eq rfl (EnvD.eq rfl (EnvD.eq rfl (EnvD.eq rfl (EnvD.eq rfl (EnvD.nil)))))) (TkD.cons _ _ _ _ _ Rem.p4 (HLe.st ⟨⟨⟨⟨⟨⟨⟨⟨trivial, DLe.refl _⟩, DLe.refl _⟩, DLe.refl _⟩, DLe.refl _⟩, DLe.refl _⟩, DLe.len (by first | rfl | omega | (simp only [row_len, gridC_len, rowO_len] <;> first | rfl | omega))⟩, DLe.len (by first | rfl | omega | (simp only [row_len, gridC_len, rowO_len] <;> first | rfl | omega))⟩, DLe.len (by first | rfl | omega | (simp only [row_len, gridC_len, rowO_len] <;> first | rfl | omega))⟩) (TkD.cons _ _ _ _ _ Rem.p4 (HLe.refl _) (TkD.cons _ _ _ _ _ Rem.p4 (HLe.refl _) (TkD.cons _ _ _ _ _ Rem.p4 (HLe.refl _) (TkD.cons _ _ _ _ _ Rem.p0 (HLe.st ⟨⟨⟨⟨⟨⟨⟨⟨trivial, DLe.refl _⟩, DLe.refl _⟩, DLe.refl _⟩, DLe.refl _⟩, DLe.refl _⟩, DLe.len (by first | rfl | omega | (simp only [row_len, gridC_len, rowO_len] <;> first | rfl | omega))⟩, DLe.len (by first | rfl | omega | (simp only [row_len, gridC_len, rowO_len] <;> first | rfl | omega))⟩, DLe.len (by first | rfl | omega | (simp only [row_len, gridC_len, rowO_len] <;> first | rfl | omega))⟩) (TkD.cons _ _ _ _ _ Rem.p0 (HLe.refl _) (TkD.cons _ _ _ _ _ Rem.p0 (HLe.refl _) (TkD.cons _ _ _ _ _ Rem.p0 (HLe.refl _) (TkD.cons _ _ _ _ _ Rem.p1 (HLe.st ⟨⟨⟨⟨⟨trivial, DLe.refl _⟩, DLe.refl _⟩, DLe.refl _⟩, DLe.refl _⟩, DLe.refl _⟩) (TkD.nil _))))))))))
 replace H := ite_t h56 H
 refine GoO.guardF rfl rfl rfl rfl ?_
 refine GoO.guardF rfl rfl rfl rfl ?_
 refine GoO.pure (ps_pickT rfl rfl rfl) ?_
 refine GoO.nil ?_
 refine GoK.code ?_
 refine GoC.condT rfl ?_
 refine GoC.seq ?_
 refine GoC.region ?_
 refine GoO.pure (ps_assign rfl rfl) ?_
 refine GoO.nil ?_
 refine GoK.code ?_
 obtain rfl := Option.some.inj H
 obtain rfl := Option.some.inj hF35
 obtain rfl := Option.some.inj HK34
 exact GoC.retL (ds := [.v (.bool false)]) Try.results6 (ResL.cons (ResD.tmp rfl) (ResL.nil)) (Take.nil _) ⟨rfl, rfl⟩
 obtain rfl : m40 = 0 := by omega
 refine GoC.exit rfl ?_
 cases hF35
 exact GoK.meet ⟨_, _, β27, β28, β29, β31, β32, β33, rfl, rfl, rfl⟩ (EnvD.eq rfl (EnvD.eq rfl (EnvD.nil))) (TkD.cons _ _ _ _ _ Rem.p0 (HLe.st ⟨⟨⟨⟨⟨⟨⟨⟨trivial, DLe.refl _⟩, DLe.refl _⟩, DLe.refl _⟩, DLe.refl _⟩, DLe.refl _⟩, DLe.len (by first | rfl | omega | (simp only [row_len, gridC_len, rowO_len] <;> first | rfl | omega))⟩, DLe.len (by first | rfl | omega | (simp only [row_len, gridC_len, rowO_len] <;> first | rfl | omega))⟩, DLe.len (by first | rfl | omega | (simp only [row_len, gridC_len, rowO_len] <;> first | rfl | omega))⟩) (TkD.cons _ _ _ _ _ Rem.p0 (HLe.refl _) (TkD.cons _ _ _ _ _ Rem.p0 (HLe.refl _) (TkD.cons _ _ _ _ _ Rem.p0 (HLe.refl _) (TkD.cons _ _ _ _ _ Rem.p0 (HLe.st ⟨⟨⟨⟨⟨⟨⟨⟨trivial, DLe.refl _⟩, DLe.refl _⟩, DLe.refl _⟩, DLe.refl _⟩, DLe.refl _⟩, DLe.len (by first | rfl | omega | (simp only [row_len, gridC_len, rowO_len] <;> first | rfl | omega))⟩, DLe.len (by first | rfl | omega | (simp only [row_len, gridC_len, rowO_len] <;> first | rfl | omega))⟩, DLe.len (by first | rfl | omega | (simp only [row_len, gridC_len, rowO_len] <;> first | rfl | omega))⟩) (TkD.cons _ _ _ _ _ Rem.p0 (HLe.refl _) (TkD.cons _ _ _ _ _ Rem.p0 (HLe.refl _) (TkD.cons _ _ _ _ _ Rem.p0 (HLe.refl _) (TkD.cons _ _ _ _ _ Rem.p0 (HLe.st ⟨⟨⟨⟨⟨trivial, DLe.refl _⟩, DLe.refl _⟩, DLe.refl _⟩, DLe.refl _⟩, DLe.refl _⟩) (TkD.nil _))))))))))
 rintro v h ⟨z37, z38, β27, β28, β29, β31, β32, β33, rfl, rfl, rfl⟩
 have H := HK34; clear HK34
 refine GoK.code ?_
 refine GoC.seq ?_
 refine GoC.region ?_
 refine GoO.pure (ps_move rfl rfl) ?_
 have hb := bind_l H; clear H
 obtain ⟨⟨r59, x61⟩, e62, H⟩ := hb
 refine GoO.callF rfl (Take.cons _ _ _ _ _ Rem.p0 (Take.cons _ _ _ _ _ Rem.p0 (Take.cons _ _ _ _ _ Rem.p0 (Take.cons _ _ _ _ _ Rem.p0 (Take.nil _))))) (Take.nil _) (store_Net_spec (⟨(⟨(⟨z37.now.net.n, z37.now.net.s, z37.now.net.t, z37.now.net.as⟩ : Net), z37.now.flow⟩ : StoreState), z37.old, z37.names, z37.saved⟩ : Store) β6 β27 β28 β29 e62) (LendL.cons (Lend.refl _ _) (LendL.nil)) rfl nil_fps (fun rr HH hp => ?_)
 obtain ⟨β60, β63, β64, β65, rfl, rfl⟩ := hp
 refine GoO.pure (ps_move rfl rfl) ?_
 have hb := bind_l H; clear H
 obtain ⟨⟨r66, x68⟩, e69, H⟩ := hb
 refine GoO.callF rfl (Take.cons _ _ _ _ _ Rem.p5 (Take.cons _ _ _ _ _ Rem.p5 (Take.cons _ _ _ _ _ Rem.p5 (Take.cons _ _ _ _ _ Rem.p5 (Take.nil _))))) (Take.nil _) (store_Net_spec (⟨(⟨(⟨z38.now.net.n, z38.now.net.s, z38.now.net.t, z38.now.net.as⟩ : Net), z38.now.flow⟩ : StoreState), z38.old, z38.names, z38.saved⟩ : Store) β12 β31 β32 β33 e69) (LendL.cons (Lend.refl _ _) (LendL.nil)) rfl nil_fps (fun rr HH hp => ?_)
 obtain ⟨β67, β70, β71, β72, rfl, rfl⟩ := hp
 have hb := bind_l H; clear H
 obtain ⟨r73, e74, H⟩ := hb
 refine GoO.effC (ef_call rfl (Take.nil _) (Take.cons _ _ _ _ _ Rem.p5 (Take.cons _ _ _ _ _ Rem.p0 (Take.nil _))) (weirkeep_sameNet_spec r59 r66 e74) (LendL.cons (Lend.agA ⟨⟨⟨⟨trivial, Lend.refl _ _⟩, Lend.refl _ _⟩, Lend.refl _ _⟩, Lend.all' At.p0 (by first | rfl | omega | (simp only [subl_length, cpl_length, List.length_set, List.length_append, List.length_cons, List.length_nil, List.length_replicate, row_len] <;> first | rfl | omega)) rfl⟩) (LendL.cons (Lend.agA ⟨⟨⟨⟨trivial, Lend.refl _ _⟩, Lend.refl _ _⟩, Lend.refl _ _⟩, Lend.all' At.p1 (by first | rfl | omega | (simp only [subl_length, cpl_length, List.length_set, List.length_append, List.length_cons, List.length_nil, List.length_replicate, row_len] <;> first | rfl | omega)) rfl⟩) (LendL.nil))) rfl (weirkeep_sameNet_I (r73))) (fun rr HH hp => ?_)
 obtain ⟨rfl, rfl⟩ := hp
 refine GoO.pure (ps_assign rfl rfl) ?_
 refine GoO.nil ?_
 refine GoK.code ?_
 obtain rfl := Option.some.inj H
 exact GoC.retL (ds := [.v (.bool r73)]) Try.results6 (ResL.cons (ResD.tmp rfl) (ResL.nil)) (Take.nil _) ⟨rfl, rfl⟩

end Go.Proofs.Ytfnldmbomampiaa
