/- The functions weirkeep.MostTimes, told as plain functions, and that the code does as they say. -/
import Derived.Test.YtclaacfebgigiaaTys
import Derived.Test.YtclaacfebgigiaaDat
import Derived.Test.YtclaacfebgigiaaGkeep
import Derived.Test.YtclaacfebgigiaaGmost
import Derived.Test.YtclaacfebgigiaaGref
import Derived.Test.YtclaacfebgigiaaGslices
namespace Go.Proofs.Ytclaacfebgigiaa
open Go Go.Proofs.Ytclaacfebgigiaa.Sx
set_option linter.unusedVariables false
set_option linter.unusedSimpArgs false
def weirkeep_MostTimes_B1 (n : Net) (r14 : Int) : Nat → (List Arc) → Option ((List Arc)) := fun k30 l25 =>
 ck (k30 < n.as.length) <|
 ck (InI (r14 * ((n.as.getD k30 El.d).c))) <|
 ck (k30 < l25.length) <|
 some (l25.set k30 (⟨(l25.getD k30 El.d).f, (l25.getD k30 El.d).t, (r14 * ((n.as.getD k30 El.d).c))⟩ : Arc))
def weirkeep_MostTimes_F (n : Net) (by_ : Int) (more : Int) : Option (Bool) :=
 (weirkeep_mosts_F).bind fun r2 =>
 if (!r2) = true then
  some false
 else
  (most_Of_F n).bind fun (r5, r7, r8) =>
  if r8 ≠ 0 then
   if r8 = 0 then
    some true
   else
    some (decide (r7 = 0))
  else
   if ((n.as.length : Nat) : Int) = 60 then
    if r8 = 0 then
     some true
    else
     some (decide (r7 = 0))
   else
    (weirref_Rest_F by_ 10).bind fun r14 =>
    (weirref_Rest_F more 1001).bind fun r16 =>
    (slices_Clone_Arc_F n.as).bind fun r18 =>
    (forN (weirkeep_MostTimes_B1 n r14) r18.length 0 r18).bind fun l29 =>
    (most_Of_F (⟨n.n, n.s, n.t, l29⟩ : Net)).bind fun (r36, r38, r39) =>
    (slices_Clone_Arc_F n.as).bind fun r41 =>
    ck (r41.length + 1 ≤ 5864062014805) <|
    (most_Of_F (⟨n.n, n.s, n.t, (r41 ++ ([(⟨n.s, n.t, r16⟩ : Arc)] : List Arc))⟩ : Net)).bind fun (r47, r49, r50) =>
    if r39 ≠ 0 then
     if r50 = 0 then
      ck (InI (r7 + r16)) <|
      some (decide (r49 = (r7 + r16)))
     else
      some false
    else
     ck (InI (r14 * r7)) <|
     if r38 = (r14 * r7) then
      if r50 = 0 then
       ck (InI (r7 + r16)) <|
       some (decide (r49 = (r7 + r16)))
      else
       some false
     else
      some false
def weirkeep_MostTimes_P (out : Bool) (d : D) (H : List HL) : Prop := d = .v (.bool out) ∧ H = []
theorem weirkeep_MostTimes_I (out : Bool) : IndepP (weirkeep_MostTimes_P out) := IndepP.of (by rintro _ _ ⟨rfl, rfl⟩; exact ⟨inferInstance, inferInstance⟩)
set_option maxRecDepth 100000 in
set_option maxHeartbeats 4000000 in
theorem weirkeep_MostTimes_spec (n : Net) (by_ : Int) (more : Int) {out : Bool} (H : weirkeep_MostTimes_F n by_ more = some out) : Does Try.prog 10 [.ag 4 (nth [.v (.int .i64 n.n), .v (.int .i64 n.s), .v (.int .i64 n.t), slD n.as]), .v (.int .i64 by_), .v (.int .i64 more)] [] (weirkeep_MostTimes_P out) := by
 unfold weirkeep_MostTimes_F at H
 refine Does.intro Try.func10 rfl Try.ntmps10 rfl fun w0 I0 => ?_
 refine GoC.seq ?_
 refine GoC.region ?_
 refine GoO.effB (ef_boxAg rfl rfl) (fun β1 => ?_)
 refine GoO.pure (ps_assign rfl rfl) ?_
 refine GoO.nil ?_
 refine GoK.code ?_
 refine GoC.seq ?_
 refine GoC.seq ?_
 refine GoC.region ?_
 have hb := bind_l H; clear H
 obtain ⟨r2, e3, H⟩ := hb
 refine GoO.effC (ef_call rfl (Take.nil _) (Take.nil _) (weirkeep_mosts_spec e3) (LendL.nil) rfl (weirkeep_mosts_I (r2))) (fun rr HH hp => ?_)
 obtain ⟨rfl, rfl⟩ := hp
 refine GoO.pure (ps_not rfl rfl) ?_
 refine GoO.nil ?_
 refine GoK.code ?_
 refine GoC.cond rfl (fun h4 => ?_) (fun h4 => ?_)
 replace H := itb_t h4 H
 refine GoC.seq ?_
 refine GoC.region ?_
 refine GoO.pure (ps_assign rfl rfl) ?_
 refine GoO.nil ?_
 refine GoK.code ?_
 obtain rfl := Option.some.inj H
 exact GoC.retL (ds := [.v (.bool false)]) Try.results10 (ResL.cons (ResD.tmp rfl) (ResL.nil)) (Take.nil _) ⟨rfl, rfl⟩
 replace H := itb_f h4 H
 refine GoC.skip ?_
 refine GoK.code ?_
 refine GoC.seq ?_
 refine GoC.region ?_
 refine GoO.pure (ps_loadAg rfl At.p0 At.p0 Nat.zero_lt_one rfl rfl) ?_
 have hb := bind_l H; clear H
 obtain ⟨⟨r5, r7, r8⟩, e9, H⟩ := hb
 refine GoO.effC (ef_call rfl (Take.nil _) (Take.nil _) (most_Of_spec n e9) (LendL.cons (Lend.agA ⟨⟨⟨⟨trivial, Lend.refl _ _⟩, Lend.refl _ _⟩, Lend.refl _ _⟩, Lend.refl _ _⟩) (LendL.nil)) rfl (most_Of_I (r5, r7, r8))) (fun rr HH hp => ?_)
 obtain ⟨β6, rfl, rfl⟩ := hp
 refine GoO.pure (ps_move rfl rfl) ?_
 refine GoO.pure (ps_extract rfl rfl rfl) ?_
 refine GoO.pure (ps_extract rfl rfl rfl) ?_
 refine GoO.pure (ps_extract rfl rfl rfl) ?_
 refine GoO.pure (ps_assign rfl rfl) ?_
 refine GoO.pure (ps_assign rfl rfl) ?_
 refine GoO.pure (ps_assign rfl rfl) ?_
 refine GoO.nil ?_
 refine GoK.code ?_
 refine GoC.seq ?_
 refine GoC.seq ?_
 refine GoC.region ?_
 refine GoO.pure (ps_move rfl rfl) ?_
 refine GoO.pure (ps_neq rfl rfl rfl) ?_
 refine GoO.pure (ps_move rfl rfl) ?_
 refine GoO.guardE rfl rfl rfl rfl (fun h10 => ?_) (fun h10 => ?_)
 replace H := ite_f h10 H
 refine GoO.pure (ps_fieldAddr rfl rfl) ?_
 refine GoO.guardT rfl rfl rfl ?_
 refine GoO.pure (ps_load rfl At.p1 At.p1 Nat.zero_lt_one rfl rfl) ?_
 refine GoO.guardT rfl rfl rfl ?_
 refine GoO.pure (ps_len rfl (by constructor) rfl) ?_
 refine GoO.lenLe (n := n.as.length) (x := .tmp 30) rfl (by constructor) sl_lenLe (fun ml11 => ?_)
 refine GoO.guardT rfl rfl rfl ?_
 refine GoO.pure (ps_eql rfl rfl rfl) ?_
 refine GoO.pure (ps_pickF rfl rfl rfl) ?_
 refine GoO.nil ?_
 refine GoK.code ?_
 refine GoC.condD rfl (fun h12 => ?_) (fun h12 => ?_)
 replace H := ite_t h12 H
 refine GoC.seq ?_
 refine GoC.region ?_
 refine GoO.pure (ps_move rfl rfl) ?_
 refine GoO.pure (ps_eql rfl rfl rfl) ?_
 refine GoO.pure (ps_move rfl rfl) ?_
 refine GoO.guardE rfl rfl rfl rfl (fun h13 => ?_) (fun h13 => ?_)
 replace H := ite_f h13 H
 refine GoO.pure (ps_move rfl rfl) ?_
 refine GoO.guardT rfl rfl rfl ?_
 refine GoO.pure (ps_eql rfl rfl rfl) ?_
 refine GoO.pure (ps_pickF rfl rfl rfl) ?_
 refine GoO.pure (ps_assign rfl rfl) ?_
 refine GoO.nil ?_
 refine GoK.code ?_
 obtain rfl := Option.some.inj H
 exact GoC.retL (ds := [.v (.bool (decide (r7 = 0)))]) Try.results10 (ResL.cons (ResD.tmp rfl) (ResL.nil)) (Take.nil _) ⟨rfl, rfl⟩
 replace H := ite_t h13 H
 refine GoO.guardF rfl rfl rfl rfl ?_
 refine GoO.pure (ps_pickT rfl rfl rfl) ?_
 refine GoO.pure (ps_assign rfl rfl) ?_
 refine GoO.nil ?_
 refine GoK.code ?_
 obtain rfl := Option.some.inj H
 exact GoC.retL (ds := [.v (.bool true)]) Try.results10 (ResL.cons (ResD.tmp rfl) (ResL.nil)) (Take.nil _) ⟨rfl, rfl⟩
 replace H := ite_f h12 H
 refine GoC.skip ?_
 refine GoK.code ?_
 refine GoC.seq ?_
 refine GoC.region ?_
 refine GoO.pure (ps_move rfl rfl) ?_
 have hb := bind_l H; clear H
 obtain ⟨r14, e15, H⟩ := hb
 refine GoO.effC (ef_call rfl (Take.nil _) (Take.nil _) (weirref_Rest_spec by_ 10 e15) (LendL.cons (Lend.refl _ _) (LendL.cons (Lend.refl _ _) (LendL.nil))) rfl (weirref_Rest_I (r14))) (fun rr HH hp => ?_)
 obtain ⟨rfl, rfl⟩ := hp
 refine GoO.pure (ps_move rfl rfl) ?_
 have hb := bind_l H; clear H
 obtain ⟨r16, e17, H⟩ := hb
 refine GoO.effC (ef_call rfl (Take.nil _) (Take.nil _) (weirref_Rest_spec more 1001 e17) (LendL.cons (Lend.refl _ _) (LendL.cons (Lend.refl _ _) (LendL.nil))) rfl (weirref_Rest_I (r16))) (fun rr HH hp => ?_)
 obtain ⟨rfl, rfl⟩ := hp
 refine GoO.pure (ps_assign rfl rfl) ?_
 refine GoO.pure (ps_assign rfl rfl) ?_
 refine GoO.nil ?_
 refine GoK.code ?_
 refine GoC.seq ?_
 refine GoC.drawA (.q 0 (.q 1 (.q 2 (.q 3 (.q 4 (.q 5 (.q 6 (.q 7 (.two 8 10 (.q 9 (.one 10 (.one 11 (.done)))) (.one 8 (.q 9 (.one 11 (.done))))))))))))) follows (by kernel_rfl) ?_
 refine GoP.qN rfl (ps_fieldAddr rfl rfl) ?_
 refine GoP.qN rfl (ps_load rfl At.p1 At.p1 Nat.zero_lt_one rfl rfl) ?_
 refine GoP.qN rfl (ps_fieldAddr rfl rfl) ?_
 refine GoP.qN rfl (ps_load rfl At.p1 At.p1 Nat.zero_lt_one rfl rfl) ?_
 refine GoP.qN rfl (ps_fieldAddr rfl rfl) ?_
 refine GoP.qN rfl (ps_load rfl At.p1 At.p1 Nat.zero_lt_one rfl rfl) ?_
 refine GoP.qN rfl (ps_fieldAddr rfl rfl) ?_
 refine GoP.qN rfl (ps_load rfl At.p1 At.p1 Nat.zero_lt_one rfl rfl) ?_
 have hb := bind_l H; clear H
 obtain ⟨r18, e20, H⟩ := hb
 apply GoP.fork2
 exact rfl
 exact rfl
 exact trivial
 exact trivial
 exact ef_call rfl (Take.nil _) (Take.nil _) (slices_Clone_Arc_spec n.as e20) (LendL.cons (Lend.refl _ _) (LendL.nil)) rfl (slices_Clone_Arc_I (r18))
 exact ef_alloc rfl
 exact (Take.cons _ _ _ _ _ Rem.p0 (Take.cons _ _ _ _ _ Rem.p0 (Take.nil _)))
 exact (Take.cons _ _ _ _ _ Rem.p0 (Take.cons _ _ _ _ _ Rem.p0 (Take.nil _)))
 intro hQ
 rintro _ ⟨_, _, hp, rfl⟩
 obtain ⟨β19, rfl, rfl⟩ := hp
 refine GoP.qN rfl (ps_build (Parts.cons _ _ _ _ _ _ _ _ FdP.of (Part.one _ rfl rfl) rfl rfl (Parts.cons _ _ _ _ _ _ _ _ FdP.of (Part.one _ rfl rfl) rfl rfl (Parts.cons _ _ _ _ _ _ _ _ FdP.of (Part.one _ rfl rfl) rfl rfl (Parts.cons _ _ _ _ _ _ _ _ FdP.of (Part.one _ rfl rfl) rfl rfl (Parts.nil _))))) rfl) ?_
 refine GoP.oneB rfl trivial (ef_alloc rfl) (Take.cons _ _ _ _ _ Rem.p1 (Take.cons _ _ _ _ _ Rem.p1 (Take.nil _))) (fun β23 => ?_)
 refine GoP.one1 rfl trivial (ef_storeAg rfl rfl At.p0 upd_whole Nat.zero_lt_one rfl) (Take.cons _ _ _ _ _ Rem.p0 (Take.cons _ _ _ _ _ Rem.p1 (Take.cons _ _ _ _ _ Rem.p1 (Take.nil _)))) ?_
 exact GoP.done (hQ β19 β23)
 intro hQ
 rintro _ ⟨β22, rfl⟩
 refine GoP.oneC rfl trivial (ef_call rfl (Take.nil _) (Take.nil _) (slices_Clone_Arc_spec n.as e20) (LendL.cons (Lend.refl _ _) (LendL.nil)) rfl (slices_Clone_Arc_I (r18))) (Take.cons _ _ _ _ _ Rem.p1 (Take.cons _ _ _ _ _ Rem.p1 (Take.nil _))) (fun rr HH hp => ?_)
 obtain ⟨β19, rfl, rfl⟩ := hp
 refine GoP.qN rfl (ps_build (Parts.cons _ _ _ _ _ _ _ _ FdP.of (Part.one _ rfl rfl) rfl rfl (Parts.cons _ _ _ _ _ _ _ _ FdP.of (Part.one _ rfl rfl) rfl rfl (Parts.cons _ _ _ _ _ _ _ _ FdP.of (Part.one _ rfl rfl) rfl rfl (Parts.cons _ _ _ _ _ _ _ _ FdP.of (Part.one _ rfl rfl) rfl rfl (Parts.nil _))))) rfl) ?_
 refine GoP.one1 rfl trivial (ef_storeAg rfl rfl At.p1 upd_whole Nat.zero_lt_one rfl) (Take.cons _ _ _ _ _ Rem.p1 (Take.cons _ _ _ _ _ Rem.p1 (Take.cons _ _ _ _ _ Rem.p1 (Take.nil _)))) ?_
 refine GoP.done (GoK.le ?_ (hQ β19 β22))
 refine Le.ofDW ?_ (TkD.cons _ _ _ _ _ Rem.p1 (HLe.refl _) (TkD.cons _ _ _ _ _ Rem.p0 (HLe.refl _) (TkD.cons _ _ _ _ _ Rem.p0 (HLe.refl _) (TkD.cons _ _ _ _ _ Rem.p0 (HLe.refl _) (TkD.nil _)))))
 repeat (first | exact EnvLeW.nil | refine EnvLeW.cons rfl ?_ | refine EnvLeW.skip rfl ?_)
 intro β19 β23
 refine GoK.code ?_
 refine GoC.seq ?_
 refine GoC.seq ?_
 refine GoC.region ?_
 refine GoO.pure (ps_fieldAddr rfl rfl) ?_
 refine GoO.pure (ps_load rfl At.p0 At.p0 Nat.zero_lt_one rfl rfl) ?_
 refine GoO.pure (ps_len rfl (by constructor) rfl) ?_
 refine GoO.lenLe (n := r18.length) (x := .tmp 55) rfl (by constructor) own_lenLe (fun ml24 => ?_)
 refine GoO.pure (ps_move rfl rfl) ?_
 refine GoO.nil ?_
 refine GoK.code ?_
 have hb := bind_l H; clear H
 obtain ⟨l29, hl35, HK26⟩ := hb
 refine GoC.blockJ [(1, .v (.int .i64 r14)), (2, .v (.int .i64 r16)), (3, .ptr β1 4 0 0), (8, .v (.int .i64 r7))] [.one β6 3 1 (row r5), .one β1 24 4 (st1 (nth [.v (.int .i64 n.n), .v (.int .i64 n.s), .v (.int .i64 n.t), slD n.as]))] (fun v h => v = [(10, .ptr β23 4 0 0)] ∧ h = [.one β19 32 3 (row l29), .one β23 24 4 (st1 (nth [.v (.int .i64 n.n), .v (.int .i64 n.s), .v (.int .i64 n.t), .own β19 3 0 l29.length]))]) ?_ ?_
 refine GoC.loopJ [(1, _), (2, _), (3, _), (8, _), (56, _)] [_, _] (fun m v h => ∃ (k30 : Nat) (l25 : (List Arc)), (k30 + m = r18.length ∧ forN (weirkeep_MostTimes_B1 n r14) m k30 l25 = some l29) ∧ v = [(57, .v (.int .i64 ((k30 : Nat) : Int))), (10, .ptr β23 4 0 0)] ∧ h = [.one β19 32 3 (row l25), .one β23 24 4 (st1 (nth [.v (.int .i64 n.n), .v (.int .i64 n.s), .v (.int .i64 n.t), .own β19 3 0 l25.length]))]) r18.length ⟨_, _, ⟨by omega, hl35⟩, rfl, rfl⟩ (EnvD.eq rfl (EnvD.eq rfl (EnvD.eq rfl (EnvD.eq rfl (EnvD.eq rfl (EnvD.eq rfl (EnvD.eq rfl (EnvD.nil)))))))) (TkD.cons _ _ _ _ _ Rem.p1 (HLe.refl _) (TkD.cons _ _ _ _ _ Rem.p0 (HLe.st ⟨⟨⟨⟨trivial, DLe.refl _⟩, DLe.refl _⟩, DLe.refl _⟩, DLe.len (by first | rfl | omega | (simp only [row_len] <;> first | rfl | omega))⟩) (TkD.cons _ _ _ _ _ Rem.p0 (HLe.refl _) (TkD.cons _ _ _ _ _ Rem.p0 (HLe.refl _) (TkD.nil _))))) ?_
 rintro m31 v h ⟨k30, l25, ⟨hkk30, hF27⟩, rfl, rfl⟩
 refine GoC.seq ?_
 refine GoC.region ?_
 refine GoO.pure (ps_lss rfl rfl rfl) ?_
 refine GoO.nil ?_
 refine GoK.code ?_
 refine GoC.seq ?_
 refine GoC.condD rfl (fun (hk30 : (k30 : Int) < ((r18.length : Nat) : Int)) => ?_) (fun (hk30 : ¬ (k30 : Int) < ((r18.length : Nat) : Int)) => ?_)
 obtain ⟨m31', rfl⟩ : ∃ x, m31 = x + 1 := ⟨m31 - 1, by omega⟩
 have hb := bind_l hF27; clear hF27
 obtain ⟨qrm31, H, hF27⟩ := hb
 have hnk30 : k30 < r18.length := by omega
 have hIk30 : InI ((k30 : Int) + 1) := inI_len hk30 ml24
 refine GoC.skip ?_
 refine GoK.code ?_
 refine GoC.seq ?_
 refine GoC.block ?_
 refine GoC.seq ?_
 refine GoC.region ?_
 refine GoO.pure (ps_move rfl rfl) ?_
 refine GoO.pure (ps_assign rfl rfl) ?_
 refine GoO.nil ?_
 refine GoK.code ?_
 refine GoC.drawP (.q 0 (.q 1 (.q 2 (.q 3 (.q 4 (.q 5 (.q 6 (.q 7 (.q 8 (.q 9 (.q 10 (.q 11 (.q 12 (.one 13 (.done))))))))))))))) [(10, _, _, _), (3, _, _, _)] follows (by kernel_rfl) (Take.cons _ _ _ _ _ Rem.p1 (Take.cons _ _ _ _ _ Rem.p2 (Take.nil _))) ?_
 refine GoP.qN rfl (ps_fieldAddr rfl rfl) ?_
 refine GoP.qN rfl (ps_load rfl At.p1 At.p0 Nat.zero_lt_one rfl rfl) ?_
 refine GoP.qN rfl (ps_move rfl rfl) ?_
 refine GoP.qN rfl (ps_move rfl rfl) ?_
 refine GoP.qN rfl (ps_fieldAddr rfl rfl) ?_
 refine GoP.qN rfl (ps_load rfl At.p3 At.p1 Nat.zero_lt_one rfl rfl) ?_
 refine GoP.qN rfl (ps_move rfl rfl) ?_
 have c32 := ck_l H; replace H := ck_r H
 refine GoP.qN rfl (ps_indexAddrRN rfl rfl c32 rfl) ?_
 refine GoP.qN rfl (ps_fieldAddrR rfl rfl) ?_
 refine GoP.qN rfl (ps_loadR rfl c32 rfl rfl) ?_
 have c33 := ck_l H; replace H := ck_r H
 refine GoP.qN rfl (ps_mul rfl rfl rfl c33) ?_
 have c34 := ck_l H; replace H := ck_r H
 refine GoP.qN rfl (ps_indexAddr0N rfl rfl c34 rfl) ?_
 refine GoP.qN rfl (ps_fieldAddr rfl rfl) ?_
 refine GoP.one1 rfl trivial (ef_store rfl rfl rfl At.p0 (upd_rowF (v := (⟨(l25.getD k30 El.d).f, (l25.getD k30 El.d).t, (r14 * ((n.as.getD k30 El.d).c))⟩ : Arc)) ⟨⟨⟨trivial, rfl⟩, rfl⟩, rfl⟩) c34 rfl) (Take.cons _ _ _ _ _ Rem.p0 (Take.cons _ _ _ _ _ Rem.p0 (Take.cons _ _ _ _ _ Rem.p1 (Take.nil _)))) ?_
 refine GoP.done ?_
 refine GoK.blk ?_
 refine GoK.code ?_
 refine GoC.region ?_
 refine GoO.pure (ps_add rfl rfl rfl hIk30) ?_
 refine GoO.pure (ps_move rfl rfl) ?_
 refine GoO.nil ?_
 obtain rfl := Option.some.inj H
 exact GoK.againJ m31' (by omega) ⟨_, _, ⟨by omega, hF27⟩, rfl, rfl⟩ (EnvD.eq rfl (EnvD.eq rfl (EnvD.eq rfl (EnvD.eq rfl (EnvD.eq rfl (EnvD.eq rfl (EnvD.eq rfl (EnvD.nil)))))))) (TkD.cons _ _ _ _ _ Rem.p0 (HLe.refl _) (TkD.cons _ _ _ _ _ Rem.p0 (HLe.st ⟨⟨⟨⟨trivial, DLe.refl _⟩, DLe.refl _⟩, DLe.refl _⟩, DLe.len (by first | rfl | omega | (simp only [row_len, List.length_set] <;> first | rfl | omega))⟩) (TkD.cons _ _ _ _ _ Rem.p0 (HLe.refl _) (TkD.cons _ _ _ _ _ Rem.p0 (HLe.refl _) (TkD.nil _)))))
 obtain rfl : m31 = 0 := by omega
 refine GoC.exit rfl ?_
 cases hF27
 exact GoK.meet ⟨rfl, rfl⟩ (EnvD.eq rfl (EnvD.eq rfl (EnvD.eq rfl (EnvD.eq rfl (EnvD.eq rfl (EnvD.nil)))))) (TkD.cons _ _ _ _ _ Rem.p0 (HLe.refl _) (TkD.cons _ _ _ _ _ Rem.p0 (HLe.st ⟨⟨⟨⟨trivial, DLe.refl _⟩, DLe.refl _⟩, DLe.refl _⟩, DLe.len (by first | rfl | omega | (simp only [row_len] <;> first | rfl | omega))⟩) (TkD.cons _ _ _ _ _ Rem.p0 (HLe.refl _) (TkD.cons _ _ _ _ _ Rem.p0 (HLe.st ⟨⟨⟨⟨trivial, DLe.refl _⟩, DLe.refl _⟩, DLe.refl _⟩, DLe.refl _⟩) (TkD.nil _)))))
 rintro v h ⟨rfl, rfl⟩
 have H := HK26; clear HK26
 refine GoK.code ?_
 refine GoC.seq ?_
 refine GoC.region ?_
 refine GoO.pure (ps_loadAg rfl At.p1 At.p1 Nat.zero_lt_one rfl rfl) ?_
 have hb := bind_l H; clear H
 obtain ⟨⟨r36, r38, r39⟩, e40, H⟩ := hb
 refine GoO.effC (ef_call rfl (Take.nil _) (Take.cons _ _ _ _ _ Rem.p0 (Take.nil _)) (most_Of_spec (⟨n.n, n.s, n.t, l29⟩ : Net) e40) (LendL.cons (Lend.agA ⟨⟨⟨⟨trivial, Lend.refl _ _⟩, Lend.refl _ _⟩, Lend.refl _ _⟩, Lend.all' At.p0 (by first | rfl | omega | (simp only [subl_length, List.length_set, List.length_append, List.length_cons, List.length_nil, List.length_replicate, row_len] <;> first | rfl | omega)) rfl⟩) (LendL.nil)) rfl (most_Of_I (r36, r38, r39))) (fun rr HH hp => ?_)
 obtain ⟨β37, rfl, rfl⟩ := hp
 refine GoO.pure (ps_move rfl rfl) ?_
 refine GoO.pure (ps_extract rfl rfl rfl) ?_
 refine GoO.pure (ps_extract rfl rfl rfl) ?_
 refine GoO.pure (ps_extract rfl rfl rfl) ?_
 refine GoO.pure (ps_assign rfl rfl) ?_
 refine GoO.pure (ps_assign rfl rfl) ?_
 refine GoO.pure (ps_assign rfl rfl) ?_
 refine GoO.nil ?_
 refine GoK.code ?_
 refine GoC.seq ?_
 refine GoC.drawP (.q 0 (.q 1 (.q 2 (.q 3 (.q 4 (.q 5 (.q 6 (.q 7 (.q 9 (.q 10 (.q 11 (.q 12 (.q 13 (.q 14 (.two 8 15 (.one 15 (.one 16 (.q 17 (.one 18 (.q 19 (.q 20 (.q 21 (.q 22 (.q 23 (.q 24 (.q 25 (.done)))))))))))) (.one 8 (.one 16 (.q 17 (.one 18 (.q 19 (.q 20 (.q 21 (.q 22 (.q 23 (.q 24 (.q 25 (.done))))))))))))))))))))))))))) [(3, _, _, _)] follows (by kernel_rfl) (Take.cons _ _ _ _ _ Rem.p4 (Take.nil _)) ?_
 refine GoP.qN rfl (ps_fieldAddr rfl rfl) ?_
 refine GoP.qN rfl (ps_load rfl At.p4 At.p0 Nat.zero_lt_one rfl rfl) ?_
 refine GoP.qN rfl (ps_fieldAddr rfl rfl) ?_
 refine GoP.qN rfl (ps_load rfl At.p4 At.p0 Nat.zero_lt_one rfl rfl) ?_
 refine GoP.qN rfl (ps_fieldAddr rfl rfl) ?_
 refine GoP.qN rfl (ps_load rfl At.p4 At.p0 Nat.zero_lt_one rfl rfl) ?_
 refine GoP.qN rfl (ps_fieldAddr rfl rfl) ?_
 refine GoP.qN rfl (ps_load rfl At.p4 At.p0 Nat.zero_lt_one rfl rfl) ?_
 refine GoP.qN rfl (ps_fieldAddr rfl rfl) ?_
 refine GoP.qN rfl (ps_load rfl At.p4 At.p0 Nat.zero_lt_one rfl rfl) ?_
 refine GoP.qN rfl (ps_fieldAddr rfl rfl) ?_
 refine GoP.qN rfl (ps_load rfl At.p4 At.p0 Nat.zero_lt_one rfl rfl) ?_
 refine GoP.qN rfl (ps_move rfl rfl) ?_
 refine GoP.qN rfl (ps_build (Parts.cons _ _ _ _ _ _ _ _ FdP.of (Part.one _ rfl rfl) rfl rfl (Parts.cons _ _ _ _ _ _ _ _ FdP.of (Part.one _ rfl rfl) rfl rfl (Parts.cons _ _ _ _ _ _ _ _ FdP.of (Part.one _ rfl rfl) rfl rfl (Parts.nil _)))) rfl) ?_
 have hb := bind_l H; clear H
 obtain ⟨r41, e43, H⟩ := hb
 have c46 := ck_l H; replace H := ck_r H
 have hb := bind_l H; clear H
 obtain ⟨⟨r47, r49, r50⟩, e51, H⟩ := hb
 apply GoP.fork4
 exact rfl
 exact rfl
 exact trivial
 exact trivial
 exact ef_call rfl (Take.nil _) (Take.nil _) (slices_Clone_Arc_spec n.as e43) (LendL.cons (Lend.refl _ _) (LendL.nil)) rfl (slices_Clone_Arc_I (r41))
 exact ef_buildSlice (row ([(⟨n.s, n.t, r16⟩ : Arc)] : List Arc)) rfl (Parts.cons _ _ _ _ _ _ _ _ ⟨rfl, rfl⟩ (Part.ag _ _ rfl) rfl rfl (Parts.nil _)) rfl rfl rfl rfl
 exact (Take.cons _ _ _ _ _ Rem.p4 (Take.nil _))
 exact (Take.cons _ _ _ _ _ Rem.p4 (Take.nil _))
 intro hQ
 rintro _ ⟨_, _, hp, rfl⟩
 obtain ⟨β42, rfl, rfl⟩ := hp
 refine GoP.oneB rfl trivial (ef_buildSlice (row ([(⟨n.s, n.t, r16⟩ : Arc)] : List Arc)) rfl (Parts.cons _ _ _ _ _ _ _ _ ⟨rfl, rfl⟩ (Part.ag _ _ rfl) rfl rfl (Parts.nil _)) rfl rfl rfl rfl) (Take.cons _ _ _ _ _ Rem.p5 (Take.nil _)) (fun β53 => ?_)
 refine GoP.oneB rfl trivial (ef_append rfl rfl Rem.p1 (Src.own At.p0 (by first | omega | (simp only [subl_length, List.length_set, List.length_append, List.length_cons, List.length_nil, List.length_replicate, row_len]; omega) | (simp only [subl_length, List.length_set, List.length_append, List.length_cons, List.length_nil, List.length_replicate, row_len]; done))) (cat_row (α := Arc) (by first | rfl | omega | (simp only [subl_length, List.length_set, List.length_append, List.length_cons, List.length_nil, List.length_replicate, row_len] <;> first | rfl | omega)) (by first | rfl | omega | (simp only [subl_length, List.length_set, List.length_append, List.length_cons, List.length_nil, List.length_replicate, row_len] <;> first | rfl | omega)) (fun _ _ _ _ => rfl)) (by first | omega | (simp only [subl_length, List.length_set, List.length_append, List.length_cons, List.length_nil, List.length_replicate, row_len]; omega) | (simp only [subl_length, List.length_set, List.length_append, List.length_cons, List.length_nil, List.length_replicate, row_len]; done)) (app_le c46 rfl) rfl rfl rfl) (Take.cons _ _ _ _ _ Rem.p1 (Take.cons _ _ _ _ _ Rem.p5 (Take.nil _))) (fun β54 => ?_)
 refine GoP.qN rfl (ps_build (Parts.cons _ _ _ _ _ _ _ _ FdP.of (Part.one _ rfl rfl) rfl rfl (Parts.cons _ _ _ _ _ _ _ _ FdP.of (Part.one _ rfl rfl) rfl rfl (Parts.cons _ _ _ _ _ _ _ _ FdP.of (Part.one _ rfl rfl) rfl rfl (Parts.cons _ _ _ _ _ _ _ _ FdP.of (Part.one _ rfl rfl) rfl rfl (Parts.nil _))))) rfl) ?_
 refine GoP.oneC rfl trivial (ef_call rfl (Take.nil _) (Take.cons _ _ _ _ _ Rem.p0 (Take.nil _)) (most_Of_spec (⟨n.n, n.s, n.t, (r41 ++ ([(⟨n.s, n.t, r16⟩ : Arc)] : List Arc))⟩ : Net) e51) (LendL.cons (Lend.agA ⟨⟨⟨⟨trivial, Lend.refl _ _⟩, Lend.refl _ _⟩, Lend.refl _ _⟩, Lend.all' At.p0 (by first | rfl | omega | (simp only [subl_length, List.length_set, List.length_append, List.length_cons, List.length_nil, List.length_replicate, row_len] <;> first | rfl | omega)) rfl⟩) (LendL.nil)) rfl (most_Of_I (r47, r49, r50))) (Take.cons _ _ _ _ _ Rem.p6 (Take.nil _)) (fun rr HH hp => ?_)
 obtain ⟨β48, rfl, rfl⟩ := hp
 refine GoP.qN rfl (ps_move rfl rfl) ?_
 refine GoP.qN rfl (ps_extract rfl rfl rfl) ?_
 refine GoP.qN rfl (ps_extract rfl rfl rfl) ?_
 refine GoP.qN rfl (ps_extract rfl rfl rfl) ?_
 refine GoP.qN rfl (ps_assign rfl rfl) ?_
 refine GoP.qN rfl (ps_assign rfl rfl) ?_
 refine GoP.qN rfl (ps_assign rfl rfl) ?_
 exact GoP.done (hQ β42 β53 β54 β48)
 intro hQ
 rintro _ ⟨β52, rfl⟩
 refine GoP.oneC rfl trivial (ef_call rfl (Take.nil _) (Take.nil _) (slices_Clone_Arc_spec n.as e43) (LendL.cons (Lend.refl _ _) (LendL.nil)) rfl (slices_Clone_Arc_I (r41))) (Take.cons _ _ _ _ _ Rem.p5 (Take.nil _)) (fun rr HH hp => ?_)
 obtain ⟨β42, rfl, rfl⟩ := hp
 refine GoP.oneB rfl trivial (ef_append rfl rfl Rem.p0 (Src.own At.p1 (by first | omega | (simp only [subl_length, List.length_set, List.length_append, List.length_cons, List.length_nil, List.length_replicate, row_len]; omega) | (simp only [subl_length, List.length_set, List.length_append, List.length_cons, List.length_nil, List.length_replicate, row_len]; done))) (cat_row (α := Arc) (by first | rfl | omega | (simp only [subl_length, List.length_set, List.length_append, List.length_cons, List.length_nil, List.length_replicate, row_len] <;> first | rfl | omega)) (by first | rfl | omega | (simp only [subl_length, List.length_set, List.length_append, List.length_cons, List.length_nil, List.length_replicate, row_len] <;> first | rfl | omega)) (fun _ _ _ _ => rfl)) (by first | omega | (simp only [subl_length, List.length_set, List.length_append, List.length_cons, List.length_nil, List.length_replicate, row_len]; omega) | (simp only [subl_length, List.length_set, List.length_append, List.length_cons, List.length_nil, List.length_replicate, row_len]; done)) (app_le c46 rfl) rfl rfl rfl) (Take.cons _ _ _ _ _ Rem.p0 (Take.cons _ _ _ _ _ Rem.p5 (Take.nil _))) (fun β55 => ?_)
 refine GoP.qN rfl (ps_build (Parts.cons _ _ _ _ _ _ _ _ FdP.of (Part.one _ rfl rfl) rfl rfl (Parts.cons _ _ _ _ _ _ _ _ FdP.of (Part.one _ rfl rfl) rfl rfl (Parts.cons _ _ _ _ _ _ _ _ FdP.of (Part.one _ rfl rfl) rfl rfl (Parts.cons _ _ _ _ _ _ _ _ FdP.of (Part.one _ rfl rfl) rfl rfl (Parts.nil _))))) rfl) ?_
 refine GoP.oneC rfl trivial (ef_call rfl (Take.nil _) (Take.cons _ _ _ _ _ Rem.p0 (Take.nil _)) (most_Of_spec (⟨n.n, n.s, n.t, (r41 ++ ([(⟨n.s, n.t, r16⟩ : Arc)] : List Arc))⟩ : Net) e51) (LendL.cons (Lend.agA ⟨⟨⟨⟨trivial, Lend.refl _ _⟩, Lend.refl _ _⟩, Lend.refl _ _⟩, Lend.all' At.p0 (by first | rfl | omega | (simp only [subl_length, List.length_set, List.length_append, List.length_cons, List.length_nil, List.length_replicate, row_len] <;> first | rfl | omega)) rfl⟩) (LendL.nil)) rfl (most_Of_I (r47, r49, r50))) (Take.cons _ _ _ _ _ Rem.p6 (Take.nil _)) (fun rr HH hp => ?_)
 obtain ⟨β48, rfl, rfl⟩ := hp
 refine GoP.qN rfl (ps_move rfl rfl) ?_
 refine GoP.qN rfl (ps_extract rfl rfl rfl) ?_
 refine GoP.qN rfl (ps_extract rfl rfl rfl) ?_
 refine GoP.qN rfl (ps_extract rfl rfl rfl) ?_
 refine GoP.qN rfl (ps_assign rfl rfl) ?_
 refine GoP.qN rfl (ps_assign rfl rfl) ?_
 refine GoP.qN rfl (ps_assign rfl rfl) ?_
 refine GoP.done (GoK.le ?_ (hQ β42 β52 β55 β48))
 refine Le.ofDW ?_ (TkD.cons _ _ _ _ _ Rem.p0 (HLe.refl _) (TkD.cons _ _ _ _ _ Rem.p0 (HLe.refl _) (TkD.cons _ _ _ _ _ Rem.p0 (HLe.refl _) (TkD.cons _ _ _ _ _ Rem.p0 (HLe.refl _) (TkD.cons _ _ _ _ _ Rem.p0 (HLe.refl _) (TkD.cons _ _ _ _ _ Rem.p0 (HLe.refl _) (TkD.cons _ _ _ _ _ Rem.p0 (HLe.refl _) (TkD.cons _ _ _ _ _ Rem.p0 (HLe.refl _) (TkD.nil _)))))))))
 repeat (first | exact EnvLeW.nil | refine EnvLeW.cons rfl ?_ | refine EnvLeW.skip rfl ?_)
 intro β42 β53 β54 β48
 refine GoK.code ?_
 refine GoC.seq ?_
 refine GoC.region ?_
 refine GoO.pure (ps_move rfl rfl) ?_
 refine GoO.pure (ps_neq rfl rfl rfl) ?_
 refine GoO.pure (ps_move rfl rfl) ?_
 refine GoO.guardE rfl rfl rfl rfl (fun h56 => ?_) (fun h56 => ?_)
 replace H := ite_f h56 H
 refine GoO.pure (ps_move rfl rfl) ?_
 refine GoO.guardT rfl rfl rfl ?_
 refine GoO.pure (ps_move rfl rfl) ?_
 refine GoO.guardT rfl rfl rfl ?_
 refine GoO.pure (ps_move rfl rfl) ?_
 refine GoO.guardT rfl rfl rfl ?_
 have c57 := ck_l H; replace H := ck_r H
 refine GoO.pure (ps_mul rfl rfl rfl c57) ?_
 refine GoO.guardT rfl rfl rfl ?_
 refine GoO.pure (ps_eql rfl rfl rfl) ?_
 refine GoO.pure (ps_pickF rfl rfl rfl) ?_
 refine GoO.pure (ps_move rfl rfl) ?_
 refine GoO.guardD rfl rfl rfl rfl (fun h58 => ?_) (fun h58 => ?_)
 replace H := ite_t h58 H
 refine GoO.pure (ps_move rfl rfl) ?_
 refine GoO.guardT rfl rfl rfl ?_
 refine GoO.pure (ps_eql rfl rfl rfl) ?_
 refine GoO.pure (ps_pickT rfl rfl rfl) ?_
 refine GoO.pure (ps_move rfl rfl) ?_
 refine GoO.guardD rfl rfl rfl rfl (fun h59 => ?_) (fun h59 => ?_)
 replace H := ite_t h59 H
 refine GoO.pure (ps_move rfl rfl) ?_
 refine GoO.guardT rfl rfl rfl ?_
 refine GoO.pure (ps_move rfl rfl) ?_
 refine GoO.guardT rfl rfl rfl ?_
 refine GoO.pure (ps_move rfl rfl) ?_
 refine GoO.guardT rfl rfl rfl ?_
 have c60 := ck_l H; replace H := ck_r H
 refine GoO.pure (ps_add rfl rfl rfl c60) ?_
 refine GoO.guardT rfl rfl rfl ?_
 refine GoO.pure (ps_eql rfl rfl rfl) ?_
 refine GoO.pure (ps_pickT rfl rfl rfl) ?_
 refine GoO.pure (ps_assign rfl rfl) ?_
 refine GoO.nil ?_
 refine GoK.code ?_
 obtain rfl := Option.some.inj H
 exact GoC.retL (ds := [.v (.bool (decide (r49 = (r7 + r16))))]) Try.results10 (ResL.cons (ResD.tmp rfl) (ResL.nil)) (Take.nil _) ⟨rfl, rfl⟩
 replace H := ite_f h59 H
 refine GoO.guardF rfl rfl rfl rfl ?_
 refine GoO.guardF rfl rfl rfl rfl ?_
 refine GoO.guardF rfl rfl rfl rfl ?_
 refine GoO.guardF rfl rfl rfl rfl ?_
 refine GoO.pure (ps_pickF rfl rfl rfl) ?_
 refine GoO.pure (ps_assign rfl rfl) ?_
 refine GoO.nil ?_
 refine GoK.code ?_
 obtain rfl := Option.some.inj H
 exact GoC.retL (ds := [.v (.bool false)]) Try.results10 (ResL.cons (ResD.tmp rfl) (ResL.nil)) (Take.nil _) ⟨rfl, rfl⟩
 replace H := ite_f h58 H
 refine GoO.guardF rfl rfl rfl rfl ?_
 refine GoO.pure (ps_pickF rfl rfl rfl) ?_
 refine GoO.pure (ps_move rfl rfl) ?_
 refine GoO.guardF rfl rfl rfl rfl ?_
 refine GoO.guardF rfl rfl rfl rfl ?_
 refine GoO.guardF rfl rfl rfl rfl ?_
 refine GoO.guardF rfl rfl rfl rfl ?_
 refine GoO.guardF rfl rfl rfl rfl ?_
 refine GoO.pure (ps_pickF rfl rfl rfl) ?_
 refine GoO.pure (ps_assign rfl rfl) ?_
 refine GoO.nil ?_
 refine GoK.code ?_
 obtain rfl := Option.some.inj H
 exact GoC.retL (ds := [.v (.bool false)]) Try.results10 (ResL.cons (ResD.tmp rfl) (ResL.nil)) (Take.nil _) ⟨rfl, rfl⟩
 replace H := ite_t h56 H
 refine GoO.guardF rfl rfl rfl rfl ?_
 refine GoO.guardF rfl rfl rfl rfl ?_
 refine GoO.guardF rfl rfl rfl rfl ?_
 refine GoO.guardF rfl rfl rfl rfl ?_
 refine GoO.pure (ps_pickT rfl rfl rfl) ?_
 refine GoO.pure (ps_move rfl rfl) ?_
 refine GoO.guardT rfl rfl rfl ?_
 refine GoO.pure (ps_move rfl rfl) ?_
 refine GoO.guardT rfl rfl rfl ?_
 refine GoO.pure (ps_eql rfl rfl rfl) ?_
 refine GoO.pure (ps_pickT rfl rfl rfl) ?_
 refine GoO.pure (ps_move rfl rfl) ?_
 refine GoO.guardD rfl rfl rfl rfl (fun h61 => ?_) (fun h61 => ?_)
 replace H := ite_t h61 H
 refine GoO.pure (ps_move rfl rfl) ?_
 refine GoO.guardT rfl rfl rfl ?_
 refine GoO.pure (ps_move rfl rfl) ?_
 refine GoO.guardT rfl rfl rfl ?_
 refine GoO.pure (ps_move rfl rfl) ?_
 refine GoO.guardT rfl rfl rfl ?_
 have c62 := ck_l H; replace H := ck_r H
 refine GoO.pure (ps_add rfl rfl rfl c62) ?_
 refine GoO.guardT rfl rfl rfl ?_
 refine GoO.pure (ps_eql rfl rfl rfl) ?_
 refine GoO.pure (ps_pickT rfl rfl rfl) ?_
 refine GoO.pure (ps_assign rfl rfl) ?_
 refine GoO.nil ?_
 refine GoK.code ?_
 obtain rfl := Option.some.inj H
 exact GoC.retL (ds := [.v (.bool (decide (r49 = (r7 + r16))))]) Try.results10 (ResL.cons (ResD.tmp rfl) (ResL.nil)) (Take.nil _) ⟨rfl, rfl⟩
 replace H := ite_f h61 H
 refine GoO.guardF rfl rfl rfl rfl ?_
 refine GoO.guardF rfl rfl rfl rfl ?_
 refine GoO.guardF rfl rfl rfl rfl ?_
 refine GoO.guardF rfl rfl rfl rfl ?_
 refine GoO.pure (ps_pickF rfl rfl rfl) ?_
 refine GoO.pure (ps_assign rfl rfl) ?_
 refine GoO.nil ?_
 refine GoK.code ?_
 obtain rfl := Option.some.inj H
 exact GoC.retL (ds := [.v (.bool false)]) Try.results10 (ResL.cons (ResD.tmp rfl) (ResL.nil)) (Take.nil _) ⟨rfl, rfl⟩
 replace H := ite_t h10 H
 refine GoO.guardF rfl rfl rfl rfl ?_
 refine GoO.guardF rfl rfl rfl rfl ?_
 refine GoO.guardF rfl rfl rfl rfl ?_
 refine GoO.pure (ps_pickT rfl rfl rfl) ?_
 refine GoO.nil ?_
 refine GoK.code ?_
 refine GoC.condT rfl ?_
 refine GoC.seq ?_
 refine GoC.region ?_
 refine GoO.pure (ps_move rfl rfl) ?_
 refine GoO.pure (ps_eql rfl rfl rfl) ?_
 refine GoO.pure (ps_move rfl rfl) ?_
 refine GoO.guardE rfl rfl rfl rfl (fun h63 => ?_) (fun h63 => ?_)
 replace H := ite_f h63 H
 refine GoO.pure (ps_move rfl rfl) ?_
 refine GoO.guardT rfl rfl rfl ?_
 refine GoO.pure (ps_eql rfl rfl rfl) ?_
 refine GoO.pure (ps_pickF rfl rfl rfl) ?_
 refine GoO.pure (ps_assign rfl rfl) ?_
 refine GoO.nil ?_
 refine GoK.code ?_
 obtain rfl := Option.some.inj H
 exact GoC.retL (ds := [.v (.bool (decide (r7 = 0)))]) Try.results10 (ResL.cons (ResD.tmp rfl) (ResL.nil)) (Take.nil _) ⟨rfl, rfl⟩
 replace H := ite_t h63 H
 refine GoO.guardF rfl rfl rfl rfl ?_
 refine GoO.pure (ps_pickT rfl rfl rfl) ?_
 refine GoO.pure (ps_assign rfl rfl) ?_
 refine GoO.nil ?_
 refine GoK.code ?_
 obtain rfl := Option.some.inj H
 exact GoC.retL (ds := [.v (.bool true)]) Try.results10 (ResL.cons (ResD.tmp rfl) (ResL.nil)) (Take.nil _) ⟨rfl, rfl⟩

end Go.Proofs.Ytclaacfebgigiaa
