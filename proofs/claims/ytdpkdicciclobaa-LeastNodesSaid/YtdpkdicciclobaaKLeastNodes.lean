/- The functions weirkeep.LeastNodes, told as plain functions, and that the code does as they say. -/
import Derived.Test.YtdpkdicciclobaaTys
import Derived.Test.YtdpkdicciclobaaDat
import Derived.Test.YtdpkdicciclobaaGkeep
import Derived.Test.YtdpkdicciclobaaGleast
import Derived.Test.YtdpkdicciclobaaGslices
import Derived.Test.YtdpkdicciclobaaGwalk
namespace Go.Proofs.Ytdpkdicciclobaa
open Go Go.Proofs.Ytdpkdicciclobaa.Sx
set_option linter.unusedVariables false
set_option linter.unusedSimpArgs false
def weirkeep_LeastNodes_B1 (g : Graph) (set_ : Int) : Nat → (Int × (List Arc)) → Option (Int × (List Arc)) := fun k33 (x25, l27) =>
 ((
  ck (0 ≤ ((g.as.getD k33 El.d).f)) <|
  ck (0 ≤ ((g.as.getD k33 El.d).t)) <|
  if (bitsOf .and .u16 (Int.fdiv set_ (2 ^ min (((g.as.getD k33 El.d).f).toNat) 16)) 1) ≠ (bitsOf .and .u16 (Int.fdiv set_ (2 ^ min (((g.as.getD k33 El.d).t).toNat) 16)) 1) then
   ck (InI (x25 + ((g.as.getD k33 El.d).c))) <|
   some (x25 + ((g.as.getD k33 El.d).c))
  else
   some x25) : Option (Int)).bind fun x36 =>
 if 0 < ((g.as.getD k33 El.d).c) then
  ck (l27.length + 1 ≤ 5864062014805) <|
  some (x36, (l27 ++ ([(g.as.getD k33 El.d)] : List Arc)))
 else
  some (x36, l27)
def weirkeep_LeastNodes_F (g : Graph) (set_ : Int) : Option (Bool) :=
 (least_Of_F (⟨2, []⟩ : Graph)).bind fun (r2, r3, r4) =>
 if r4 ≠ 0 then
  some false
 else
  if r3 ≠ 0 then
   some false
  else
   (weirkeep_three_F).bind fun r8 =>
   (least_Of_F r8).bind fun (r11, r12, r13) =>
   if r13 ≠ 0 then
    some false
   else
    if r11 ≠ 4 then
     some false
    else
     if r12 ≠ 3 then
      some false
     else
      (least_Of_F g).bind fun (r18, r19, r20) =>
      if r20 ≠ 0 then
       some (decide (r19 = 0))
      else
       (forN (weirkeep_LeastNodes_B1 g set_) g.as.length 0 (0, [])).bind fun (x31, l32) =>
       (walk_Parts_F (⟨g.n, l32⟩ : Graph)).bind fun (r48, r50) =>
       ck (0 ≤ g.n) <|
       if r50 = 0 then
        if ((r48.length : Nat) : Int) = g.n then
         (slices_Max_int_F r48).bind fun r56 =>
         if (decide (r19 = 0)) = (decide (0 < r56)) then
          if (bitsOf .and .u16 set_ (IntKind.u16.wrap ((IntKind.u16.wrap (1 * 2 ^ min g.n.toNat 16)) - 1))) = 0 then
           some true
          else
           ck (InI ((IntKind.i64.wrap (1 * 2 ^ min g.n.toNat 64)) - 1)) <|
           if (IntKind.i64.wrap (bitsOf .and .u16 set_ (IntKind.u16.wrap ((IntKind.u16.wrap (1 * 2 ^ min g.n.toNat 16)) - 1)))) = ((IntKind.i64.wrap (1 * 2 ^ min g.n.toNat 64)) - 1) then
            some true
           else
            some (decide (r19 ≤ x31))
         else
          some false
        else
         some false
       else
        some false
def weirkeep_LeastNodes_P (out : Bool) (d : D) (H : List HL) : Prop := d = .v (.bool out) ∧ H = []
theorem weirkeep_LeastNodes_I (out : Bool) : IndepP (weirkeep_LeastNodes_P out) := IndepP.of (by rintro _ _ ⟨rfl, rfl⟩; exact ⟨inferInstance, inferInstance⟩)
set_option maxRecDepth 100000 in
set_option maxHeartbeats 4000000 in
theorem weirkeep_LeastNodes_spec (g : Graph) (set_ : Int) {out : Bool} (H : weirkeep_LeastNodes_F g set_ = some out) : Does Try.prog 11 [.ag 2 (nth [.v (.int .i64 g.n), slD g.as]), .v (.int .u16 set_)] [] (weirkeep_LeastNodes_P out) := by
 unfold weirkeep_LeastNodes_F at H
 refine Does.intro Try.func11 rfl Try.ntmps11 rfl fun w0 I0 => ?_
 refine GoC.seq ?_
 refine GoC.region ?_
 refine GoO.effB (ef_boxAg rfl rfl) (fun β1 => ?_)
 refine GoO.pure (ps_assign rfl rfl) ?_
 refine GoO.nil ?_
 refine GoK.code ?_
 refine GoC.seq ?_
 refine GoC.seq ?_
 refine GoC.region ?_
 refine GoO.pure (ps_build (Parts.cons _ _ _ _ _ _ _ _ FdP.of (Part.one _ rfl rfl) rfl rfl (Parts.nil _)) rfl) ?_
 have hb := bind_l H; clear H
 obtain ⟨⟨r2, r3, r4⟩, e5, H⟩ := hb
 refine GoO.effC (ef_call rfl (Take.nil _) (Take.nil _) (least_Of_spec (⟨2, []⟩ : Graph) e5) (LendL.cons (Lend.agA ⟨⟨trivial, Lend.refl _ _⟩, Lend.nil⟩) (LendL.nil)) rfl (least_Of_I (r2, r3, r4))) (fun rr HH hp => ?_)
 obtain ⟨rfl, rfl⟩ := hp
 refine GoO.pure (ps_move rfl rfl) ?_
 refine GoO.pure (ps_extract rfl rfl rfl) ?_
 refine GoO.pure (ps_extract rfl rfl rfl) ?_
 refine GoO.pure (ps_extract rfl rfl rfl) ?_
 refine GoO.pure (ps_assign rfl rfl) ?_
 refine GoO.pure (ps_assign rfl rfl) ?_
 refine GoO.pure (ps_assign rfl rfl) ?_
 refine GoO.nil ?_
 refine GoK.code ?_
 refine GoC.seq ?_
 refine GoC.region ?_
 refine GoO.pure (ps_move rfl rfl) ?_
 refine GoO.pure (ps_neq rfl rfl rfl) ?_
 refine GoO.pure (ps_move rfl rfl) ?_
 refine GoO.guardE rfl rfl rfl rfl (fun h6 => ?_) (fun h6 => ?_)
 replace H := ite_f h6 H
 refine GoO.pure (ps_move rfl rfl) ?_
 refine GoO.guardT rfl rfl rfl ?_
 refine GoO.pure (ps_neq rfl rfl rfl) ?_
 refine GoO.pure (ps_pickF rfl rfl rfl) ?_
 refine GoO.nil ?_
 refine GoK.code ?_
 refine GoC.condD rfl (fun h7 => ?_) (fun h7 => ?_)
 replace H := ite_t h7 H
 refine GoC.seq ?_
 refine GoC.region ?_
 refine GoO.pure (ps_assign rfl rfl) ?_
 refine GoO.nil ?_
 refine GoK.code ?_
 obtain rfl := Option.some.inj H
 exact GoC.retL (ds := [.v (.bool false)]) Try.results11 (ResL.cons (ResD.tmp rfl) (ResL.nil)) (Take.nil _) ⟨rfl, rfl⟩
 replace H := ite_f h7 H
 refine GoC.skip ?_
 refine GoK.code ?_
 refine GoC.seq ?_
 refine GoC.seq ?_
 refine GoC.region ?_
 have hb := bind_l H; clear H
 obtain ⟨r8, e10, H⟩ := hb
 refine GoO.effC (ef_call rfl (Take.nil _) (Take.nil _) (weirkeep_three_spec e10) (LendL.nil) rfl (weirkeep_three_I (r8))) (fun rr HH hp => ?_)
 obtain ⟨β9, rfl, rfl⟩ := hp
 have hb := bind_l H; clear H
 obtain ⟨⟨r11, r12, r13⟩, e14, H⟩ := hb
 refine GoO.effC (ef_call rfl (Take.nil _) (Take.cons _ _ _ _ _ Rem.p0 (Take.nil _)) (least_Of_spec r8 e14) (LendL.cons (Lend.agA ⟨⟨trivial, Lend.refl _ _⟩, Lend.all' At.p0 (by first | rfl | omega | (simp only [subl_length, cpl_length, List.length_set, List.length_append, List.length_cons, List.length_nil, List.length_replicate, row_len] <;> first | rfl | omega)) rfl⟩) (LendL.nil)) rfl (least_Of_I (r11, r12, r13))) (fun rr HH hp => ?_)
 obtain ⟨rfl, rfl⟩ := hp
 refine GoO.pure (ps_move rfl rfl) ?_
 refine GoO.pure (ps_extract rfl rfl rfl) ?_
 refine GoO.pure (ps_extract rfl rfl rfl) ?_
 refine GoO.pure (ps_extract rfl rfl rfl) ?_
 refine GoO.pure (ps_assign rfl rfl) ?_
 refine GoO.pure (ps_assign rfl rfl) ?_
 refine GoO.pure (ps_assign rfl rfl) ?_
 refine GoO.nil ?_
 refine GoK.code ?_
 refine GoC.seq ?_
 refine GoC.region ?_
 refine GoO.pure (ps_move rfl rfl) ?_
 refine GoO.pure (ps_neq rfl rfl rfl) ?_
 refine GoO.pure (ps_move rfl rfl) ?_
 refine GoO.guardE rfl rfl rfl rfl (fun h15 => ?_) (fun h15 => ?_)
 replace H := ite_f h15 H
 refine GoO.pure (ps_move rfl rfl) ?_
 refine GoO.guardT rfl rfl rfl ?_
 refine GoO.pure (ps_neq rfl rfl rfl) ?_
 refine GoO.pure (ps_pickF rfl rfl rfl) ?_
 refine GoO.pure (ps_move rfl rfl) ?_
 refine GoO.guardE rfl rfl rfl rfl (fun h16 => ?_) (fun h16 => ?_)
 replace H := ite_f h16 H
 refine GoO.pure (ps_move rfl rfl) ?_
 refine GoO.guardT rfl rfl rfl ?_
 refine GoO.pure (ps_neq rfl rfl rfl) ?_
 refine GoO.pure (ps_pickF rfl rfl rfl) ?_
 refine GoO.nil ?_
 refine GoK.code ?_
 refine GoC.condD rfl (fun h17 => ?_) (fun h17 => ?_)
 replace H := ite_t h17 H
 refine GoC.seq ?_
 refine GoC.region ?_
 refine GoO.pure (ps_assign rfl rfl) ?_
 refine GoO.nil ?_
 refine GoK.code ?_
 obtain rfl := Option.some.inj H
 exact GoC.retL (ds := [.v (.bool false)]) Try.results11 (ResL.cons (ResD.tmp rfl) (ResL.nil)) (Take.nil _) ⟨rfl, rfl⟩
 replace H := ite_f h17 H
 refine GoC.skip ?_
 refine GoK.code ?_
 refine GoC.seq ?_
 refine GoC.region ?_
 refine GoO.pure (ps_loadAg rfl At.p1 At.p1 Nat.zero_lt_one rfl rfl) ?_
 have hb := bind_l H; clear H
 obtain ⟨⟨r18, r19, r20⟩, e21, H⟩ := hb
 refine GoO.effC (ef_call rfl (Take.nil _) (Take.nil _) (least_Of_spec g e21) (LendL.cons (Lend.agA ⟨⟨trivial, Lend.refl _ _⟩, Lend.refl _ _⟩) (LendL.nil)) rfl (least_Of_I (r18, r19, r20))) (fun rr HH hp => ?_)
 obtain ⟨rfl, rfl⟩ := hp
 refine GoO.pure (ps_move rfl rfl) ?_
 refine GoO.pure (ps_extract rfl rfl rfl) ?_
 refine GoO.pure (ps_extract rfl rfl rfl) ?_
 refine GoO.pure (ps_extract rfl rfl rfl) ?_
 refine GoO.pure (ps_assign rfl rfl) ?_
 refine GoO.pure (ps_assign rfl rfl) ?_
 refine GoO.pure (ps_assign rfl rfl) ?_
 refine GoO.nil ?_
 refine GoK.code ?_
 refine GoC.seq ?_
 refine GoC.seq ?_
 refine GoC.region ?_
 refine GoO.pure (ps_move rfl rfl) ?_
 refine GoO.pure (ps_neq rfl rfl rfl) ?_
 refine GoO.nil ?_
 refine GoK.code ?_
 refine GoC.condD rfl (fun h22 => ?_) (fun h22 => ?_)
 replace H := ite_t h22 H
 refine GoC.seq ?_
 refine GoC.region ?_
 refine GoO.pure (ps_move rfl rfl) ?_
 refine GoO.pure (ps_eql rfl rfl rfl) ?_
 refine GoO.pure (ps_assign rfl rfl) ?_
 refine GoO.nil ?_
 refine GoK.code ?_
 obtain rfl := Option.some.inj H
 exact GoC.retL (ds := [.v (.bool (decide (r19 = 0)))]) Try.results11 (ResL.cons (ResD.tmp rfl) (ResL.nil)) (Take.nil _) ⟨rfl, rfl⟩
 replace H := ite_f h22 H
 refine GoC.skip ?_
 refine GoK.code ?_
 refine GoC.seq ?_
 refine GoC.region ?_
 refine GoO.pure (ps_assign rfl rfl) ?_
 refine GoO.nil ?_
 refine GoK.code ?_
 refine GoC.seq ?_
 refine GoC.region ?_
 refine GoO.pure (ps_fieldAddr rfl rfl) ?_
 refine GoO.pure (ps_load rfl At.p1 At.p1 Nat.zero_lt_one rfl rfl) ?_
 refine GoO.pure (ps_build (Parts.cons _ _ _ _ _ _ _ _ FdP.of (Part.one _ rfl rfl) rfl rfl (Parts.nil _)) rfl) ?_
 refine GoO.effB (ef_alloc rfl) (fun β23 => ?_)
 refine GoO.eff1 (ef_storeAg rfl rfl At.p0 upd_whole Nat.zero_lt_one rfl) ?_
 refine GoO.nil ?_
 refine GoK.code ?_
 refine GoC.seq ?_
 refine GoC.seq ?_
 refine GoC.region ?_
 refine GoO.pure (ps_fieldAddr rfl rfl) ?_
 refine GoO.pure (ps_load rfl At.p2 At.p2 Nat.zero_lt_one rfl rfl) ?_
 refine GoO.pure (ps_len rfl (by constructor) rfl) ?_
 refine GoO.lenLe (n := g.as.length) (x := .tmp 62) rfl (by constructor) sl_lenLe (fun ml24 => ?_)
 refine GoO.pure (ps_move rfl rfl) ?_
 refine GoO.nil ?_
 refine GoK.code ?_
 have hb := bind_l H; clear H
 obtain ⟨⟨x31, l32⟩, hl47, HK28⟩ := hb
 refine GoC.blockJ [(1, .v (.int .u16 set_)), (2, .ptr β1 2 0 0), (12, .v (.int .i64 r19))] [.one β9 39 3 (row r8.as), .one β1 33 2 (st1 (nth [.v (.int .i64 g.n), slD g.as]))] (fun v h => ∃ (β26 : BK), v = [(14, .v (.int .i64 x31)), (15, .ptr β23 2 0 0)] ∧ h = [.one β26 39 3 (row l32), .one β23 33 2 (st1 (nth [.v (.int .i64 g.n), .own β26 3 0 l32.length]))]) ?_ ?_
 refine GoC.loopJ [(1, _), (2, _), (12, _), (62, _), (63, _)] [.one β9 39 3 (row r8.as), .one β1 33 2 (st1 (nth [.v (.int .i64 g.n), slD g.as]))] (fun mQ v h => ∃ (k33 : Nat) (x25 : Int) (l27 : (List Arc)) (β26 : BK), (k33 + mQ = g.as.length ∧ forN (weirkeep_LeastNodes_B1 g set_) mQ k33 (x25, l27) = some (x31, l32)) ∧ v = [(64, .v (.int .i64 ((k33 : Nat) : Int))), (14, .v (.int .i64 x25)), (15, .ptr β23 2 0 0)] ∧ h = [.one β26 39 3 (row l27), .one β23 33 2 (st1 (nth [.v (.int .i64 g.n), .own β26 3 0 l27.length]))]) g.as.length ⟨_, _, _, ⟨0, 0, 0⟩, ⟨by omega, hl47⟩, rfl, rfl⟩ (EnvD.eq rfl (EnvD.eq rfl (EnvD.eq rfl (EnvD.eq rfl (EnvD.eq rfl (EnvD.eq rfl (EnvD.eq rfl (EnvD.eq rfl (EnvD.nil))))))))) (TkD.no _ _ _ _ _ rfl (TkD.cons _ _ _ _ _ Rem.p0 (HLe.st ⟨⟨trivial, DLe.refl _⟩, DLe.nilOwn⟩) (TkD.cons _ _ _ _ _ Rem.p0 (HLe.refl _) (TkD.cons _ _ _ _ _ Rem.p0 (HLe.st ⟨⟨trivial, DLe.refl _⟩, DLe.refl _⟩) (TkD.nil _))))) ?_
 rintro m34 v h ⟨k33, x25, l27, β26, ⟨hkk33, hF29⟩, rfl, rfl⟩
 refine GoC.seq ?_
 refine GoC.region ?_
 refine GoO.pure (ps_lss rfl rfl rfl) ?_
 refine GoO.nil ?_
 refine GoK.code ?_
 refine GoC.seq ?_
 refine GoC.condD rfl (fun (hk33 : (k33 : Int) < ((g.as.length : Nat) : Int)) => ?_) (fun (hk33 : ¬ (k33 : Int) < ((g.as.length : Nat) : Int)) => ?_)
 obtain ⟨m34', rfl⟩ : ∃ x, m34 = x + 1 := ⟨m34 - 1, by omega⟩
 have hb := bind_l hF29; clear hF29
 obtain ⟨qrm34, H, hF29⟩ := hb
 have hnk33 : k33 < g.as.length := by omega
 have hIk33 : InI ((k33 : Int) + 1) := inI_len hk33 ml24
 refine GoC.skip ?_
 refine GoK.code ?_
 refine GoC.seq ?_
 refine GoC.block ?_
 refine GoC.seq ?_
 refine GoC.region ?_
 refine GoO.pure (ps_indexAddrRN rfl rfl hnk33 rfl) ?_
 refine GoO.pure (ps_loadAgR rfl hnk33 rfl rfl) ?_
 refine GoO.effB (ef_alloc rfl) (fun β35 => ?_)
 refine GoO.eff1 (ef_storeAg rfl rfl At.p0 upd_whole Nat.zero_lt_one rfl) ?_
 refine GoO.nil ?_
 refine GoK.code ?_
 have hb := bind_l H; clear H
 obtain ⟨x36, H, HK37⟩ := hb
 refine GoC.seqJ [(1, .v (.int .u16 set_)), (2, .ptr β1 2 0 0), (12, .v (.int .i64 r19)), (15, .ptr β23 2 0 0), (17, .ptr β35 3 0 0), (62, slD g.as), (63, .v (.int .i64 ((g.as.length : Nat) : Int))), (64, .v (.int .i64 ((k33 : Nat) : Int)))] [.one β35 39 3 (st1 (nth [.v (.int .i64 ((g.as.getD k33 El.d).f)), .v (.int .i64 ((g.as.getD k33 El.d).t)), .v (.int .i64 ((g.as.getD k33 El.d).c))])), .one β26 39 3 (row l27), .one β23 33 2 (st1 (nth [.v (.int .i64 g.n), .own β26 3 0 l27.length])), .one β9 39 3 (row r8.as), .one β1 33 2 (st1 (nth [.v (.int .i64 g.n), slD g.as]))] (fun v h => v = [(14, .v (.int .i64 x36))] ∧ h = []) ?_ ?_
 refine GoC.seq ?_
 refine GoC.drawA (.q 0 (.q 1 (.q 2 (.q 3 (.q 4 (.q 5 (.q 6 (.q 7 (.q 8 (.q 9 (.q 10 (.done)))))))))))) follows (by kernel_rfl) ?_
 refine GoP.qN rfl (ps_move rfl rfl) ?_
 refine GoP.qN rfl (ps_fieldAddr rfl rfl) ?_
 refine GoP.qN rfl (ps_load rfl At.p0 At.p0 Nat.zero_lt_one rfl rfl) ?_
 have c39 := ck_l H; replace H := ck_r H
 refine GoP.qN rfl (ps_shr rfl rfl rfl c39) ?_
 refine GoP.qN rfl (ps_and rfl rfl rfl) ?_
 refine GoP.qN rfl (ps_move rfl rfl) ?_
 refine GoP.qN rfl (ps_fieldAddr rfl rfl) ?_
 refine GoP.qN rfl (ps_load rfl At.p0 At.p0 Nat.zero_lt_one rfl rfl) ?_
 have c40 := ck_l H; replace H := ck_r H
 refine GoP.qN rfl (ps_shr rfl rfl rfl c40) ?_
 refine GoP.qN rfl (ps_and rfl rfl rfl) ?_
 refine GoP.qN rfl (ps_neq rfl rfl rfl) ?_
 refine GoP.done ?_
 refine GoK.code ?_
 refine GoC.condD rfl (fun h41 => ?_) (fun h41 => ?_)
 replace H := ite_t h41 H
 refine GoC.region ?_
 refine GoO.pure (ps_move rfl rfl) ?_
 refine GoO.pure (ps_fieldAddr rfl rfl) ?_
 refine GoO.pure (ps_load rfl At.p0 At.p0 Nat.zero_lt_one rfl rfl) ?_
 have c42 := ck_l H; replace H := ck_r H
 refine GoO.pure (ps_add rfl rfl rfl c42) ?_
 refine GoO.pure (ps_assign rfl rfl) ?_
 refine GoO.nil ?_
 cases H
 exact GoK.meet ⟨rfl, rfl⟩ (EnvD.eq rfl (EnvD.eq rfl (EnvD.eq rfl (EnvD.eq rfl (EnvD.eq rfl (EnvD.eq rfl (EnvD.eq rfl (EnvD.eq rfl (EnvD.eq rfl (EnvD.nil)))))))))) (TkD.cons _ _ _ _ _ Rem.p0 (HLe.st ⟨⟨⟨trivial, DLe.refl _⟩, DLe.refl _⟩, DLe.refl _⟩) (TkD.cons _ _ _ _ _ Rem.p0 (HLe.refl _) (TkD.cons _ _ _ _ _ Rem.p0 (HLe.st ⟨⟨trivial, DLe.refl _⟩, DLe.refl _⟩) (TkD.cons _ _ _ _ _ Rem.p0 (HLe.refl _) (TkD.cons _ _ _ _ _ Rem.p0 (HLe.st ⟨⟨trivial, DLe.refl _⟩, DLe.refl _⟩) (TkD.nil _))))))
 replace H := ite_f h41 H
 refine GoC.skip ?_
 cases H
 exact GoK.meet ⟨rfl, rfl⟩ (EnvD.eq rfl (EnvD.eq rfl (EnvD.eq rfl (EnvD.eq rfl (EnvD.eq rfl (EnvD.eq rfl (EnvD.eq rfl (EnvD.eq rfl (EnvD.eq rfl (EnvD.nil)))))))))) (TkD.cons _ _ _ _ _ Rem.p0 (HLe.st ⟨⟨⟨trivial, DLe.refl _⟩, DLe.refl _⟩, DLe.refl _⟩) (TkD.cons _ _ _ _ _ Rem.p0 (HLe.refl _) (TkD.cons _ _ _ _ _ Rem.p0 (HLe.st ⟨⟨trivial, DLe.refl _⟩, DLe.refl _⟩) (TkD.cons _ _ _ _ _ Rem.p0 (HLe.refl _) (TkD.cons _ _ _ _ _ Rem.p0 (HLe.st ⟨⟨trivial, DLe.refl _⟩, DLe.refl _⟩) (TkD.nil _))))))
 rintro v h ⟨rfl, rfl⟩
 have H := HK37; clear HK37
 refine GoC.seq ?_
 refine GoC.region ?_
 refine GoO.pure (ps_fieldAddr rfl rfl) ?_
 refine GoO.pure (ps_load rfl At.p0 At.p0 Nat.zero_lt_one rfl rfl) ?_
 refine GoO.pure (ps_gtr rfl rfl rfl) ?_
 refine GoO.nil ?_
 refine GoK.code ?_
 refine GoC.condD rfl (fun h43 => ?_) (fun h43 => ?_)
 replace H := ite_t h43 H
 refine GoC.region ?_
 refine GoO.pure (ps_fieldAddr rfl rfl) ?_
 refine GoO.pure (ps_load rfl At.p2 At.p2 Nat.zero_lt_one rfl rfl) ?_
 refine GoO.pure (ps_loadAg rfl At.p0 At.p0 Nat.zero_lt_one rfl rfl) ?_
 refine GoO.effB (ef_buildSlice (row ([(g.as.getD k33 El.d)] : List Arc)) rfl (Parts.cons _ _ _ _ _ _ _ _ ⟨rfl, rfl⟩ (Part.ag _ _ rfl) rfl rfl (Parts.nil _)) rfl rfl rfl rfl) (fun β44 => ?_)
 have c46 := ck_l H; replace H := ck_r H
 refine GoO.effB (ef_append rfl rfl Rem.p2 (Src.own At.p0 (by first | omega | (simp only [subl_length, cpl_length, List.length_set, List.length_append, List.length_cons, List.length_nil, List.length_replicate, row_len]; omega) | (simp only [subl_length, cpl_length, List.length_set, List.length_append, List.length_cons, List.length_nil, List.length_replicate, row_len]; done))) (cat_row (α := Arc) (by first | rfl | omega | (simp only [subl_length, cpl_length, List.length_set, List.length_append, List.length_cons, List.length_nil, List.length_replicate, row_len] <;> first | rfl | omega)) (by first | rfl | omega | (simp only [subl_length, cpl_length, List.length_set, List.length_append, List.length_cons, List.length_nil, List.length_replicate, row_len] <;> first | rfl | omega)) (fun _ _ _ _ => rfl)) (by first | omega | (simp only [subl_length, cpl_length, List.length_set, List.length_append, List.length_cons, List.length_nil, List.length_replicate, row_len]; omega) | (simp only [subl_length, cpl_length, List.length_set, List.length_append, List.length_cons, List.length_nil, List.length_replicate, row_len]; done)) (app_le c46 rfl) rfl rfl rfl) (fun β45 => ?_)
 refine GoO.pure (ps_fieldAddr rfl rfl) ?_
 refine GoO.eff1 (ef_store rfl rfl rfl At.p3 upd_st1 Nat.zero_lt_one rfl) ?_
 refine GoO.nil ?_
 refine GoK.blk ?_
 refine GoK.code ?_
 refine GoC.region ?_
 refine GoO.pure (ps_add rfl rfl rfl hIk33) ?_
 refine GoO.pure (ps_move rfl rfl) ?_
 refine GoO.nil ?_
 obtain rfl := Option.some.inj H
 exact GoK.againJ m34' (by omega) ⟨_, _, _, β45, ⟨by omega, hF29⟩, rfl, rfl⟩ (EnvD.eq rfl (EnvD.eq rfl (EnvD.eq rfl (EnvD.eq rfl (EnvD.eq rfl (EnvD.eq rfl (EnvD.eq rfl (EnvD.eq rfl (EnvD.nil))))))))) (TkD.cons _ _ _ _ _ Rem.p0 (HLe.refl _) (TkD.cons _ _ _ _ _ Rem.p2 (HLe.st ⟨⟨trivial, DLe.refl _⟩, DLe.len (by first | rfl | omega | (simp only [row_len, gridC_len, rowO_len, List.length_append, List.length_cons, List.length_nil] <;> first | rfl | omega))⟩) (TkD.cons _ _ _ _ _ Rem.p2 (HLe.refl _) (TkD.cons _ _ _ _ _ Rem.p2 (HLe.st ⟨⟨trivial, DLe.refl _⟩, DLe.refl _⟩) (TkD.nil _)))))
 replace H := ite_f h43 H
 refine GoC.skip ?_
 refine GoK.blk ?_
 refine GoK.code ?_
 refine GoC.region ?_
 refine GoO.pure (ps_add rfl rfl rfl hIk33) ?_
 refine GoO.pure (ps_move rfl rfl) ?_
 refine GoO.nil ?_
 obtain rfl := Option.some.inj H
 exact GoK.againJ m34' (by omega) ⟨_, _, _, β26, ⟨by omega, hF29⟩, rfl, rfl⟩ (EnvD.eq rfl (EnvD.eq rfl (EnvD.eq rfl (EnvD.eq rfl (EnvD.eq rfl (EnvD.eq rfl (EnvD.eq rfl (EnvD.eq rfl (EnvD.nil))))))))) (TkD.cons _ _ _ _ _ Rem.p1 (HLe.refl _) (TkD.cons _ _ _ _ _ Rem.p1 (HLe.st ⟨⟨trivial, DLe.refl _⟩, DLe.refl _⟩) (TkD.cons _ _ _ _ _ Rem.p1 (HLe.refl _) (TkD.cons _ _ _ _ _ Rem.p1 (HLe.st ⟨⟨trivial, DLe.refl _⟩, DLe.refl _⟩) (TkD.nil _)))))
 obtain rfl : m34 = 0 := by omega
 refine GoC.exit rfl ?_
 cases hF29
 exact GoK.meet ⟨β26, rfl, rfl⟩ (EnvD.eq rfl (EnvD.eq rfl (EnvD.eq rfl (EnvD.eq rfl (EnvD.eq rfl (EnvD.nil)))))) (TkD.cons _ _ _ _ _ Rem.p0 (HLe.refl _) (TkD.cons _ _ _ _ _ Rem.p0 (HLe.st ⟨⟨trivial, DLe.refl _⟩, DLe.len (by first | rfl | omega | (simp only [row_len, gridC_len, rowO_len] <;> first | rfl | omega))⟩) (TkD.cons _ _ _ _ _ Rem.p0 (HLe.refl _) (TkD.cons _ _ _ _ _ Rem.p0 (HLe.st ⟨⟨trivial, DLe.refl _⟩, DLe.refl _⟩) (TkD.nil _)))))
 rintro v h ⟨β26, rfl, rfl⟩
 have H := HK28; clear HK28
 refine GoK.code ?_
 refine GoC.seq ?_
 refine GoC.region ?_
 refine GoO.pure (ps_loadAg rfl At.p1 At.p1 Nat.zero_lt_one rfl rfl) ?_
 have hb := bind_l H; clear H
 obtain ⟨⟨r48, r50⟩, e51, H⟩ := hb
 refine GoO.effC (ef_call rfl (Take.nil _) (Take.cons _ _ _ _ _ Rem.p0 (Take.nil _)) (walk_Parts_spec (⟨g.n, l32⟩ : Graph) e51) (LendL.cons (Lend.agA ⟨⟨trivial, Lend.refl _ _⟩, Lend.all' At.p0 (by first | rfl | omega | (simp only [subl_length, cpl_length, List.length_set, List.length_append, List.length_cons, List.length_nil, List.length_replicate, row_len] <;> first | rfl | omega)) rfl⟩) (LendL.nil)) rfl (walk_Parts_I (r48, r50))) (fun rr HH hp => ?_)
 obtain ⟨β49, rfl, rfl⟩ := hp
 refine GoO.pure (ps_move rfl rfl) ?_
 refine GoO.pure (ps_extract rfl rfl rfl) ?_
 refine GoO.pure (ps_extract rfl rfl rfl) ?_
 refine GoO.pure (ps_assign rfl rfl) ?_
 refine GoO.pure (ps_assign rfl rfl) ?_
 refine GoO.nil ?_
 refine GoK.code ?_
 refine GoC.seq ?_
 refine GoC.region ?_
 refine GoO.pure (ps_move rfl rfl) ?_
 refine GoO.pure (ps_fieldAddr rfl rfl) ?_
 refine GoO.pure (ps_load rfl At.p4 At.p4 Nat.zero_lt_one rfl rfl) ?_
 have c52 := ck_l H; replace H := ck_r H
 refine GoO.pure (ps_shl rfl rfl rfl c52) ?_
 refine GoO.pure (ps_subw rfl rfl rfl) ?_
 refine GoO.pure (ps_and rfl rfl rfl) ?_
 refine GoO.pure (ps_assign rfl rfl) ?_
 refine GoO.nil ?_
 refine GoK.code ?_
 refine GoC.seq ?_
 refine GoC.region ?_
 refine GoO.pure (ps_move rfl rfl) ?_
 refine GoO.pure (ps_eql rfl rfl rfl) ?_
 refine GoO.pure (ps_move rfl rfl) ?_
 refine GoO.guardD rfl rfl rfl rfl (fun h53 => ?_) (fun h53 => ?_)
 replace H := ite_t h53 H
 refine GoO.pure (ps_move rfl rfl) ?_
 refine GoO.guardT rfl rfl rfl ?_
 refine GoO.pure (ps_len rfl (by constructor) rfl) ?_
 refine GoO.lenLe (n := r48.length) (x := .tmp 107) rfl (by constructor) own_lenLe (fun ml54 => ?_)
 refine GoO.guardT rfl rfl rfl ?_
 refine GoO.pure (ps_fieldAddr rfl rfl) ?_
 refine GoO.guardT rfl rfl rfl ?_
 refine GoO.pure (ps_load rfl At.p4 At.p4 Nat.zero_lt_one rfl rfl) ?_
 refine GoO.guardT rfl rfl rfl ?_
 refine GoO.pure (ps_eql rfl rfl rfl) ?_
 refine GoO.pure (ps_pickT rfl rfl rfl) ?_
 refine GoO.pure (ps_move rfl rfl) ?_
 refine GoO.guardD rfl rfl rfl rfl (fun h55 => ?_) (fun h55 => ?_)
 replace H := ite_t h55 H
 refine GoO.pure (ps_move rfl rfl) ?_
 refine GoO.guardT rfl rfl rfl ?_
 refine GoO.pure (ps_eql rfl rfl rfl) ?_
 refine GoO.guardT rfl rfl rfl ?_
 refine GoO.pure (ps_move rfl rfl) ?_
 refine GoO.guardT rfl rfl rfl ?_
 have hb := bind_l H; clear H
 obtain ⟨r56, e57, H⟩ := hb
 refine GoO.effC (ef_call rfl (Take.nil _) (Take.cons _ _ _ _ _ Rem.p0 (Take.nil _)) (slices_Max_int_spec r48 e57) (LendL.cons (Lend.all' At.p0 (by first | rfl | omega | (simp only [subl_length, cpl_length, List.length_set, List.length_append, List.length_cons, List.length_nil, List.length_replicate, row_len] <;> first | rfl | omega)) rfl) (LendL.nil)) rfl (slices_Max_int_I (r56))) (fun rr HH hp => ?_)
 obtain ⟨rfl, rfl⟩ := hp
 refine GoO.guardT rfl rfl rfl ?_
 refine GoO.pure (ps_gtr rfl rfl rfl) ?_
 refine GoO.guardT rfl rfl rfl ?_
 refine GoO.pure (ps_eqlB rfl rfl rfl) ?_
 refine GoO.pure (ps_pickT rfl rfl rfl) ?_
 refine GoO.pure (ps_move rfl rfl) ?_
 refine GoO.guardD rfl rfl rfl rfl (fun h58 => ?_) (fun h58 => ?_)
 replace H := ite_t h58 H
 refine GoO.pure (ps_move rfl rfl) ?_
 refine GoO.guardT rfl rfl rfl ?_
 refine GoO.pure (ps_eql rfl rfl rfl) ?_
 refine GoO.guardT rfl rfl rfl ?_
 refine GoO.pure (ps_move rfl rfl) ?_
 refine GoO.guardE rfl rfl rfl rfl (fun h59 => ?_) (fun h59 => ?_)
 replace H := ite_f h59 H
 refine GoO.pure (ps_move rfl rfl) ?_
 refine GoO.guardT rfl rfl rfl ?_
 refine GoO.pure (ps_convK rfl rfl) ?_
 refine GoO.guardT rfl rfl rfl ?_
 refine GoO.pure (ps_fieldAddr rfl rfl) ?_
 refine GoO.guardT rfl rfl rfl ?_
 refine GoO.pure (ps_load rfl At.p4 At.p4 Nat.zero_lt_one rfl rfl) ?_
 refine GoO.guardT rfl rfl rfl ?_
 refine GoO.pure (ps_shl rfl rfl rfl c52) ?_
 refine GoO.guardT rfl rfl rfl ?_
 have c60 := ck_l H; replace H := ck_r H
 refine GoO.pure (ps_sub rfl rfl rfl c60) ?_
 refine GoO.guardT rfl rfl rfl ?_
 refine GoO.pure (ps_eql rfl rfl rfl) ?_
 refine GoO.guardT rfl rfl rfl ?_
 refine GoO.pure (ps_pickF rfl rfl rfl) ?_
 refine GoO.guardT rfl rfl rfl ?_
 refine GoO.pure (ps_move rfl rfl) ?_
 refine GoO.guardE rfl rfl rfl rfl (fun h61 => ?_) (fun h61 => ?_)
 replace H := ite_f h61 H
 refine GoO.pure (ps_move rfl rfl) ?_
 refine GoO.guardT rfl rfl rfl ?_
 refine GoO.pure (ps_move rfl rfl) ?_
 refine GoO.guardT rfl rfl rfl ?_
 refine GoO.pure (ps_leq rfl rfl rfl) ?_
 refine GoO.guardT rfl rfl rfl ?_
 refine GoO.pure (ps_pickF rfl rfl rfl) ?_
 refine GoO.pure (ps_pickT rfl rfl rfl) ?_
 refine GoO.pure (ps_assign rfl rfl) ?_
 refine GoO.nil ?_
 refine GoK.code ?_
 obtain rfl := Option.some.inj H
 exact GoC.retL (ds := [.v (.bool (decide (r19 ≤ x31)))]) Try.results11 (ResL.cons (ResD.tmp rfl) (ResL.nil)) (Take.nil _) ⟨rfl, rfl⟩
 replace H := ite_t h61 H
 refine GoO.guardF rfl rfl rfl rfl ?_
 refine GoO.guardF rfl rfl rfl rfl ?_
 refine GoO.guardT rfl rfl rfl ?_
 refine GoO.pure (ps_pickT rfl rfl rfl) ?_
 refine GoO.pure (ps_pickT rfl rfl rfl) ?_
 refine GoO.pure (ps_assign rfl rfl) ?_
 refine GoO.nil ?_
 refine GoK.code ?_
 obtain rfl := Option.some.inj H
 exact GoC.retL (ds := [.v (.bool true)]) Try.results11 (ResL.cons (ResD.tmp rfl) (ResL.nil)) (Take.nil _) ⟨rfl, rfl⟩
 replace H := ite_t h59 H
 refine GoO.guardF rfl rfl rfl rfl ?_
 refine GoO.guardF rfl rfl rfl rfl ?_
 refine GoO.guardF rfl rfl rfl rfl ?_
 refine GoO.guardF rfl rfl rfl rfl ?_
 refine GoO.guardF rfl rfl rfl rfl ?_
 refine GoO.guardF rfl rfl rfl rfl ?_
 refine GoO.guardT rfl rfl rfl ?_
 refine GoO.pure (ps_pickT rfl rfl rfl) ?_
 refine GoO.guardT rfl rfl rfl ?_
 refine GoO.pure (ps_move rfl rfl) ?_
 refine GoO.guardF rfl rfl rfl rfl ?_
 refine GoO.guardF rfl rfl rfl rfl ?_
 refine GoO.guardF rfl rfl rfl rfl ?_
 refine GoO.guardT rfl rfl rfl ?_
 refine GoO.pure (ps_pickT rfl rfl rfl) ?_
 refine GoO.pure (ps_pickT rfl rfl rfl) ?_
 refine GoO.pure (ps_assign rfl rfl) ?_
 refine GoO.nil ?_
 refine GoK.code ?_
 obtain rfl := Option.some.inj H
 exact GoC.retL (ds := [.v (.bool true)]) Try.results11 (ResL.cons (ResD.tmp rfl) (ResL.nil)) (Take.nil _) ⟨rfl, rfl⟩
 replace H := ite_f h58 H
 refine GoO.guardF rfl rfl rfl rfl ?_
 refine GoO.guardF rfl rfl rfl rfl ?_
 refine GoO.guardU rfl rfl rfl rfl ?_
 refine GoO.guardU rfl rfl rfl rfl ?_
 refine GoO.guardU rfl rfl rfl rfl ?_
 refine GoO.guardU rfl rfl rfl rfl ?_
 refine GoO.guardU rfl rfl rfl rfl ?_
 refine GoO.guardU rfl rfl rfl rfl ?_
 refine GoO.guardU rfl rfl rfl rfl ?_
 refine GoO.guardF rfl rfl rfl rfl ?_
 refine GoO.guardF rfl rfl rfl rfl ?_
 refine GoO.guardU rfl rfl rfl rfl ?_
 refine GoO.guardU rfl rfl rfl rfl ?_
 refine GoO.guardU rfl rfl rfl rfl ?_
 refine GoO.guardF rfl rfl rfl rfl ?_
 refine GoO.pure (ps_pickF rfl rfl rfl) ?_
 refine GoO.pure (ps_assign rfl rfl) ?_
 refine GoO.nil ?_
 refine GoK.code ?_
 obtain rfl := Option.some.inj H
 exact GoC.retL (ds := [.v (.bool false)]) Try.results11 (ResL.cons (ResD.tmp rfl) (ResL.nil)) (Take.nil _) ⟨rfl, rfl⟩
 replace H := ite_f h55 H
 refine GoO.guardF rfl rfl rfl rfl ?_
 refine GoO.guardF rfl rfl rfl rfl ?_
 refine GoO.guardF rfl rfl rfl rfl ?_
 refine GoO.guardF rfl rfl rfl rfl ?_
 refine GoO.guardF rfl rfl rfl rfl ?_
 refine GoO.pure (ps_pickF rfl rfl rfl) ?_
 refine GoO.pure (ps_move rfl rfl) ?_
 refine GoO.guardF rfl rfl rfl rfl ?_
 refine GoO.guardF rfl rfl rfl rfl ?_
 refine GoO.guardF rfl rfl rfl rfl ?_
 refine GoO.guardU rfl rfl rfl rfl ?_
 refine GoO.guardU rfl rfl rfl rfl ?_
 refine GoO.guardU rfl rfl rfl rfl ?_
 refine GoO.guardU rfl rfl rfl rfl ?_
 refine GoO.guardU rfl rfl rfl rfl ?_
 refine GoO.guardU rfl rfl rfl rfl ?_
 refine GoO.guardU rfl rfl rfl rfl ?_
 refine GoO.guardF rfl rfl rfl rfl ?_
 refine GoO.guardF rfl rfl rfl rfl ?_
 refine GoO.guardU rfl rfl rfl rfl ?_
 refine GoO.guardU rfl rfl rfl rfl ?_
 refine GoO.guardU rfl rfl rfl rfl ?_
 refine GoO.guardF rfl rfl rfl rfl ?_
 refine GoO.pure (ps_pickF rfl rfl rfl) ?_
 refine GoO.pure (ps_assign rfl rfl) ?_
 refine GoO.nil ?_
 refine GoK.code ?_
 obtain rfl := Option.some.inj H
 exact GoC.retL (ds := [.v (.bool false)]) Try.results11 (ResL.cons (ResD.tmp rfl) (ResL.nil)) (Take.nil _) ⟨rfl, rfl⟩
 replace H := ite_f h53 H
 refine GoO.guardF rfl rfl rfl rfl ?_
 refine GoO.guardF rfl rfl rfl rfl ?_
 refine GoO.guardF rfl rfl rfl rfl ?_
 refine GoO.guardF rfl rfl rfl rfl ?_
 refine GoO.pure (ps_pickF rfl rfl rfl) ?_
 refine GoO.pure (ps_move rfl rfl) ?_
 refine GoO.guardF rfl rfl rfl rfl ?_
 refine GoO.guardF rfl rfl rfl rfl ?_
 refine GoO.guardF rfl rfl rfl rfl ?_
 refine GoO.guardF rfl rfl rfl rfl ?_
 refine GoO.guardF rfl rfl rfl rfl ?_
 refine GoO.guardF rfl rfl rfl rfl ?_
 refine GoO.pure (ps_pickF rfl rfl rfl) ?_
 refine GoO.pure (ps_move rfl rfl) ?_
 refine GoO.guardF rfl rfl rfl rfl ?_
 refine GoO.guardF rfl rfl rfl rfl ?_
 refine GoO.guardF rfl rfl rfl rfl ?_
 refine GoO.guardU rfl rfl rfl rfl ?_
 refine GoO.guardU rfl rfl rfl rfl ?_
 refine GoO.guardU rfl rfl rfl rfl ?_
 refine GoO.guardU rfl rfl rfl rfl ?_
 refine GoO.guardU rfl rfl rfl rfl ?_
 refine GoO.guardU rfl rfl rfl rfl ?_
 refine GoO.guardU rfl rfl rfl rfl ?_
 refine GoO.guardF rfl rfl rfl rfl ?_
 refine GoO.guardF rfl rfl rfl rfl ?_
 refine GoO.guardU rfl rfl rfl rfl ?_
 refine GoO.guardU rfl rfl rfl rfl ?_
 refine GoO.guardU rfl rfl rfl rfl ?_
 refine GoO.guardF rfl rfl rfl rfl ?_
 refine GoO.pure (ps_pickF rfl rfl rfl) ?_
 refine GoO.pure (ps_assign rfl rfl) ?_
 refine GoO.nil ?_
 refine GoK.code ?_
 obtain rfl := Option.some.inj H
 exact GoC.retL (ds := [.v (.bool false)]) Try.results11 (ResL.cons (ResD.tmp rfl) (ResL.nil)) (Take.nil _) ⟨rfl, rfl⟩
 replace H := ite_t h16 H
 refine GoO.guardF rfl rfl rfl rfl ?_
 refine GoO.pure (ps_pickT rfl rfl rfl) ?_
 refine GoO.nil ?_
 refine GoK.code ?_
 refine GoC.condT rfl ?_
 refine GoC.seq ?_
 refine GoC.region ?_
 refine GoO.pure (ps_assign rfl rfl) ?_
 refine GoO.nil ?_
 refine GoK.code ?_
 obtain rfl := Option.some.inj H
 exact GoC.retL (ds := [.v (.bool false)]) Try.results11 (ResL.cons (ResD.tmp rfl) (ResL.nil)) (Take.nil _) ⟨rfl, rfl⟩
 replace H := ite_t h15 H
 refine GoO.guardF rfl rfl rfl rfl ?_
 refine GoO.pure (ps_pickT rfl rfl rfl) ?_
 refine GoO.pure (ps_move rfl rfl) ?_
 refine GoO.guardF rfl rfl rfl rfl ?_
 refine GoO.guardF rfl rfl rfl rfl ?_
 refine GoO.pure (ps_pickT rfl rfl rfl) ?_
 refine GoO.nil ?_
 refine GoK.code ?_
 refine GoC.condT rfl ?_
 refine GoC.seq ?_
 refine GoC.region ?_
 refine GoO.pure (ps_assign rfl rfl) ?_
 refine GoO.nil ?_
 refine GoK.code ?_
 obtain rfl := Option.some.inj H
 exact GoC.retL (ds := [.v (.bool false)]) Try.results11 (ResL.cons (ResD.tmp rfl) (ResL.nil)) (Take.nil _) ⟨rfl, rfl⟩
 replace H := ite_t h6 H
 refine GoO.guardF rfl rfl rfl rfl ?_
 refine GoO.pure (ps_pickT rfl rfl rfl) ?_
 refine GoO.nil ?_
 refine GoK.code ?_
 refine GoC.condT rfl ?_
 refine GoC.seq ?_
 refine GoC.region ?_
 refine GoO.pure (ps_assign rfl rfl) ?_
 refine GoO.nil ?_
 refine GoK.code ?_
 obtain rfl := Option.some.inj H
 exact GoC.retL (ds := [.v (.bool false)]) Try.results11 (ResL.cons (ResD.tmp rfl) (ResL.nil)) (Take.nil _) ⟨rfl, rfl⟩

end Go.Proofs.Ytdpkdicciclobaa
