/- The functions euler.Can, euler.Trail, told as plain functions, and that the code does as they say. -/
import Derived.Test.YtblhoelmodbifaaTys
import Derived.Test.YtblhoelmodbifaaDat
import Derived.Test.YtblhoelmodbifaaGgraph
import Derived.Test.YtblhoelmodbifaaGslices
import Derived.Test.YtblhoelmodbifaaGwalk
namespace Go.Proofs.Ytblhoelmodbifaa
open Go Go.Proofs.Ytblhoelmodbifaa.Sx
set_option linter.unusedVariables false
set_option linter.unusedSimpArgs false
def euler_Can_B1 (r2 : (List Int)) (r4 : (List Int)) : Nat → (Nat × Nat) → Option (Ct (Nat × Nat) (Int × Int)) := fun k21 (n14, n15) =>
 ck (k21 < r2.length) <|
 ck (k21 < r4.length) <|
 ck (InI ((r2.getD k21 (0 : Int)) - (r4.getD k21 (0 : Int)))) <|
 if ((r2.getD k21 (0 : Int)) - (r4.getD k21 (0 : Int))) = 1 then
  ck (InI (((n14 : Nat) : Int) + 1)) <|
  some (.go ((n14 + 1), n15))
 else
  if ((r2.getD k21 (0 : Int)) - (r4.getD k21 (0 : Int))) = (-1) then
   ck (InI (((n15 : Nat) : Int) + 1)) <|
   some (.go (n14, (n15 + 1)))
  else
   if ((r2.getD k21 (0 : Int)) - (r4.getD k21 (0 : Int))) ≠ 0 then
    some (.ret (0, 0))
   else
    some (.go (n14, n15))
def euler_Can_B2 (g : Graph) (r9 : (List Int)) : Nat → Unit → Option (Ct (Unit) (Int × Int)) := fun k36 _ =>
 ck (0 ≤ (g.as.getD k36 El.d).f ∧ (g.as.getD k36 El.d).f < ((r9.length : Nat) : Int)) <|
 ck (0 < g.as.length) <|
 ck (0 ≤ (g.as.getD 0 El.d).f ∧ (g.as.getD 0 El.d).f < ((r9.length : Nat) : Int)) <|
 if (r9.getD (((g.as.getD k36 El.d).f).toNat) (0 : Int)) ≠ (r9.getD (((g.as.getD 0 El.d).f).toNat) (0 : Int)) then
  some (.ret (0, 0))
 else
  some (.go ())
def euler_Can_F (g : Graph) : Option (Int × Int) :=
 (graph_Degrees_F g).bind fun (r2, r4, r6) =>
 if r6 ≠ 0 then
  some (0, r6)
 else
  (walk_Parts_F g).bind fun (r9, r11) =>
  ck (InI g.n) <|
  (forC (euler_Can_B1 r2 r4) g.n.toNat 0 (0, 0)).bind fun q => match q with
  | .go (n19, n20) =>
   (forC (euler_Can_B2 g r9) g.as.length 0 ()).bind fun q => match q with
   | .go _ =>
    if ((n19 : Nat) : Int) = 0 then
     some (2, 0)
    else
     if ((n19 : Nat) : Int) = 1 then
      if ((n20 : Nat) : Int) = 1 then
       some (1, 0)
      else
       some (0, 0)
     else
      some (0, 0)
   | .ret x => some x
  | .ret x => some x
def euler_Can_P (out : Int × Int) (d : D) (H : List HL) : Prop := d = .tp 2 (nth [.v (.int .i64 out.1), .v (.int .i64 out.2)]) ∧ H = []
theorem euler_Can_I (out : Int × Int) : IndepP (euler_Can_P out) := IndepP.of (by rintro _ _ ⟨rfl, rfl⟩; exact ⟨inferInstance, inferInstance⟩)
set_option maxRecDepth 100000 in
set_option maxHeartbeats 4000000 in
theorem euler_Can_spec (g : Graph) {out : Int × Int} (H : euler_Can_F g = some out) : Does Try.prog 33 [.ag 2 (nth [.v (.int .i64 g.n), slD g.as])] [] (euler_Can_P out) := by
 unfold euler_Can_F at H
 refine Does.intro Try.func33 rfl Try.ntmps33 rfl fun w0 I0 => ?_
 refine GoC.seq ?_
 refine GoC.region ?_
 refine GoO.effB (ef_boxAg rfl rfl) (fun β1 => ?_)
 refine GoO.pure (ps_assign rfl rfl) ?_
 refine GoO.pure (ps_assign rfl rfl) ?_
 refine GoO.nil ?_
 refine GoK.code ?_
 refine GoC.seq ?_
 refine GoC.region ?_
 refine GoO.pure (ps_loadAg rfl At.p0 At.p0 Nat.zero_lt_one rfl rfl) ?_
 have hb := bind_l H; clear H
 obtain ⟨⟨r2, r4, r6⟩, e7, H⟩ := hb
 refine GoO.effC (ef_call rfl (Take.nil _) (Take.nil _) (graph_Degrees_spec g e7) (LendL.cons (Lend.agA ⟨⟨trivial, Lend.refl _ _⟩, Lend.refl _ _⟩) (LendL.nil)) rfl (graph_Degrees_I (r2, r4, r6))) (fun rr HH hp => ?_)
 obtain ⟨β3, β5, rfl, rfl⟩ := hp
 refine GoO.pure (ps_move rfl rfl) ?_
 refine GoO.pure (ps_extract rfl rfl rfl) ?_
 refine GoO.pure (ps_extract rfl rfl rfl) ?_
 refine GoO.pure (ps_extract rfl rfl rfl) ?_
 refine GoO.pure (ps_assign rfl rfl) ?_
 refine GoO.pure (ps_assign rfl rfl) ?_
 refine GoO.pure (ps_assign rfl rfl) ?_
 refine GoO.nil ?_
 refine GoK.code ?_
 refine GoC.seq ?_
 refine GoC.seq ?_
 refine GoC.region ?_
 refine GoO.pure (ps_move rfl rfl) ?_
 refine GoO.pure (ps_neq rfl rfl rfl) ?_
 refine GoO.nil ?_
 refine GoK.code ?_
 refine GoC.condD rfl (fun h8 => ?_) (fun h8 => ?_)
 replace H := ite_t h8 H
 refine GoC.seq ?_
 refine GoC.region ?_
 refine GoO.pure (ps_move rfl rfl) ?_
 refine GoO.pure (ps_assign rfl rfl) ?_
 refine GoO.pure (ps_assign rfl rfl) ?_
 refine GoO.nil ?_
 refine GoK.code ?_
 obtain rfl := Option.some.inj H
 exact GoC.retL (ds := [.v (.int .i64 0), .v (.int .i64 r6)]) Try.results33 (ResL.cons (ResD.tmp rfl) (ResL.cons (ResD.tmp rfl) (ResL.nil))) (Take.nil _) ⟨rfl, rfl⟩
 replace H := ite_f h8 H
 refine GoC.skip ?_
 refine GoK.code ?_
 refine GoC.seq ?_
 refine GoC.region ?_
 refine GoO.pure (ps_loadAg rfl At.p2 At.p2 Nat.zero_lt_one rfl rfl) ?_
 have hb := bind_l H; clear H
 obtain ⟨⟨r9, r11⟩, e12, H⟩ := hb
 refine GoO.effC (ef_call rfl (Take.nil _) (Take.nil _) (walk_Parts_spec g e12) (LendL.cons (Lend.agA ⟨⟨trivial, Lend.refl _ _⟩, Lend.refl _ _⟩) (LendL.nil)) rfl (walk_Parts_I (r9, r11))) (fun rr HH hp => ?_)
 obtain ⟨β10, rfl, rfl⟩ := hp
 refine GoO.pure (ps_move rfl rfl) ?_
 refine GoO.pure (ps_extract rfl rfl rfl) ?_
 refine GoO.pure (ps_extract rfl rfl rfl) ?_
 refine GoO.pure (ps_assign rfl rfl) ?_
 refine GoO.pure (ps_assign rfl rfl) ?_
 refine GoO.nil ?_
 refine GoK.code ?_
 refine GoC.seq ?_
 refine GoC.region ?_
 refine GoO.pure (ps_assign rfl rfl) ?_
 refine GoO.pure (ps_assign rfl rfl) ?_
 refine GoO.nil ?_
 refine GoK.code ?_
 refine GoC.seq ?_
 refine GoC.seq ?_
 refine GoC.region ?_
 refine GoO.pure (ps_fieldAddr rfl rfl) ?_
 refine GoO.pure (ps_load rfl At.p3 At.p3 Nat.zero_lt_one rfl rfl) ?_
 refine GoO.pure (ps_move rfl rfl) ?_
 refine GoO.nil ?_
 refine GoK.code ?_
 have c13 := ck_l H; replace H := ck_r H
 have hb := bind_l H; clear H
 obtain ⟨q18, hl31, HK16⟩ := hb
 refine GoC.blockJ [(1, .ptr β1 2 0 0), (7, .own β10 1 0 r9.length)] [.one β10 3 1 (row r9), .one β3 3 1 (row r2), .one β5 3 1 (row r4), .one β1 33 2 (st1 (nth [.v (.int .i64 g.n), slD g.as]))] (fun v h => ∃ (n19 : Nat) (n20 : Nat), q18 = .go (n19, n20) ∧ v = [(9, .v (.int .i64 ((n19 : Nat) : Int))), (10, .v (.int .i64 ((n20 : Nat) : Int)))] ∧ h = []) ?_ ?_
 refine GoC.loopJ [(1, _), (4, _), (5, _), (7, _), (30, _)] [.one β10 3 1 (row r9), .one β3 3 1 (row r2), .one β5 3 1 (row r4), .one β1 33 2 (st1 (nth [.v (.int .i64 g.n), slD g.as]))] (fun m v h => ∃ (k21 : Nat) (n14 : Nat) (n15 : Nat), (k21 + m = g.n.toNat ∧ forC (euler_Can_B1 r2 r4) m k21 (n14, n15) = some q18) ∧ v = [(31, .v (.int .i64 ((k21 : Nat) : Int))), (9, .v (.int .i64 ((n14 : Nat) : Int))), (10, .v (.int .i64 ((n15 : Nat) : Int)))] ∧ h = []) g.n.toNat ⟨_, _, _, ⟨by omega, hl31⟩, rfl, rfl⟩ (EnvD.eq rfl (EnvD.eq rfl (EnvD.eq rfl (EnvD.eq rfl (EnvD.eq rfl (EnvD.eq rfl (EnvD.eq rfl (EnvD.eq rfl (EnvD.nil))))))))) (TkD.cons _ _ _ _ _ Rem.p0 (HLe.refl _) (TkD.cons _ _ _ _ _ Rem.p0 (HLe.refl _) (TkD.cons _ _ _ _ _ Rem.p0 (HLe.refl _) (TkD.cons _ _ _ _ _ Rem.p0 (HLe.st ⟨⟨trivial, DLe.refl _⟩, DLe.refl _⟩) (TkD.nil _))))) ?_
 rintro m22 v h ⟨k21, n14, n15, ⟨hkk21, hF17⟩, rfl, rfl⟩
 refine GoC.seq ?_
 refine GoC.region ?_
 refine GoO.pure (ps_lss rfl rfl rfl) ?_
 refine GoO.nil ?_
 refine GoK.code ?_
 refine GoC.seq ?_
 refine GoC.condD rfl (fun (hk21 : (k21 : Int) < g.n) => ?_) (fun (hk21 : ¬ (k21 : Int) < g.n) => ?_)
 obtain ⟨m22', rfl⟩ : ∃ x, m22 = x + 1 := ⟨m22 - 1, by omega⟩
 have hb := bind_l hF17; clear hF17
 obtain ⟨qrm22, H, hF17⟩ := hb
 have hnk21 : k21 < g.n.toNat := by omega
 have hIk21 : InI ((k21 : Int) + 1) := inI_cnt hk21 c13
 refine GoC.skip ?_
 refine GoK.code ?_
 refine GoC.seq ?_
 refine GoC.block ?_
 refine GoC.seq ?_
 refine GoC.region ?_
 refine GoO.pure (ps_move rfl rfl) ?_
 refine GoO.pure (ps_assign rfl rfl) ?_
 refine GoO.nil ?_
 refine GoK.code ?_
 refine GoC.seq ?_
 refine GoC.drawA (.q 0 (.q 1 (.q 2 (.q 3 (.q 4 (.q 5 (.q 6 (.q 7 (.q 8 (.q 9 (.done))))))))))) follows (by kernel_rfl) ?_
 refine GoP.qN rfl (ps_move rfl rfl) ?_
 refine GoP.qN rfl (ps_move rfl rfl) ?_
 have c23 := ck_l H; replace H := ck_r H
 refine GoP.qN rfl (ps_indexAddr0N rfl rfl c23 rfl) ?_
 refine GoP.qN rfl (ps_load rfl At.p1 At.p1 c23 rfl rfl) ?_
 refine GoP.qN rfl (ps_move rfl rfl) ?_
 refine GoP.qN rfl (ps_move rfl rfl) ?_
 have c24 := ck_l H; replace H := ck_r H
 refine GoP.qN rfl (ps_indexAddr0N rfl rfl c24 rfl) ?_
 refine GoP.qN rfl (ps_load rfl At.p2 At.p2 c24 rfl rfl) ?_
 have c25 := ck_l H; replace H := ck_r H
 refine GoP.qN rfl (ps_sub rfl rfl rfl c25) ?_
 refine GoP.qN rfl (ps_assign rfl rfl) ?_
 refine GoP.done ?_
 refine GoK.code ?_
 refine GoC.block ?_
 refine GoC.seq ?_
 refine GoC.region ?_
 refine GoO.pure (ps_move rfl rfl) ?_
 refine GoO.pure (ps_eql rfl rfl rfl) ?_
 refine GoO.pure (ps_assign rfl rfl) ?_
 refine GoO.nil ?_
 refine GoK.code ?_
 refine GoC.condD rfl (fun h26 => ?_) (fun h26 => ?_)
 replace H := ite_t h26 H
 refine GoC.region ?_
 refine GoO.pure (ps_move rfl rfl) ?_
 have c27 := ck_l H; replace H := ck_r H
 refine GoO.pure (ps_add rfl rfl rfl c27) ?_
 refine GoO.pure (ps_assign rfl rfl) ?_
 refine GoO.nil ?_
 refine GoK.blk ?_
 refine GoK.blk ?_
 refine GoK.code ?_
 refine GoC.region ?_
 refine GoO.pure (ps_add rfl rfl rfl hIk21) ?_
 refine GoO.pure (ps_move rfl rfl) ?_
 refine GoO.nil ?_
 obtain rfl := Option.some.inj H
 exact GoK.againJ m22' (by omega) ⟨_, _, _, ⟨by omega, hF17⟩, rfl, rfl⟩ (EnvD.eq rfl (EnvD.eq rfl (EnvD.eq rfl (EnvD.eq rfl (EnvD.eq rfl (EnvD.eq rfl (EnvD.eq rfl (EnvD.eq rfl (EnvD.nil))))))))) (TkD.cons _ _ _ _ _ Rem.p0 (HLe.refl _) (TkD.cons _ _ _ _ _ Rem.p0 (HLe.refl _) (TkD.cons _ _ _ _ _ Rem.p0 (HLe.refl _) (TkD.cons _ _ _ _ _ Rem.p0 (HLe.st ⟨⟨trivial, DLe.refl _⟩, DLe.refl _⟩) (TkD.nil _)))))
 replace H := ite_f h26 H
 refine GoC.seq ?_
 refine GoC.region ?_
 refine GoO.pure (ps_move rfl rfl) ?_
 refine GoO.pure (ps_eql rfl rfl rfl) ?_
 refine GoO.pure (ps_assign rfl rfl) ?_
 refine GoO.nil ?_
 refine GoK.code ?_
 refine GoC.condD rfl (fun h28 => ?_) (fun h28 => ?_)
 replace H := ite_t h28 H
 refine GoC.region ?_
 refine GoO.pure (ps_move rfl rfl) ?_
 have c29 := ck_l H; replace H := ck_r H
 refine GoO.pure (ps_add rfl rfl rfl c29) ?_
 refine GoO.pure (ps_assign rfl rfl) ?_
 refine GoO.nil ?_
 refine GoK.blk ?_
 refine GoK.blk ?_
 refine GoK.code ?_
 refine GoC.region ?_
 refine GoO.pure (ps_add rfl rfl rfl hIk21) ?_
 refine GoO.pure (ps_move rfl rfl) ?_
 refine GoO.nil ?_
 obtain rfl := Option.some.inj H
 exact GoK.againJ m22' (by omega) ⟨_, _, _, ⟨by omega, hF17⟩, rfl, rfl⟩ (EnvD.eq rfl (EnvD.eq rfl (EnvD.eq rfl (EnvD.eq rfl (EnvD.eq rfl (EnvD.eq rfl (EnvD.eq rfl (EnvD.eq rfl (EnvD.nil))))))))) (TkD.cons _ _ _ _ _ Rem.p0 (HLe.refl _) (TkD.cons _ _ _ _ _ Rem.p0 (HLe.refl _) (TkD.cons _ _ _ _ _ Rem.p0 (HLe.refl _) (TkD.cons _ _ _ _ _ Rem.p0 (HLe.st ⟨⟨trivial, DLe.refl _⟩, DLe.refl _⟩) (TkD.nil _)))))
 replace H := ite_f h28 H
 refine GoC.seq ?_
 refine GoC.region ?_
 refine GoO.pure (ps_move rfl rfl) ?_
 refine GoO.pure (ps_neq rfl rfl rfl) ?_
 refine GoO.pure (ps_assign rfl rfl) ?_
 refine GoO.nil ?_
 refine GoK.code ?_
 refine GoC.condD rfl (fun h30 => ?_) (fun h30 => ?_)
 replace H := ite_t h30 H
 refine GoC.seq ?_
 refine GoC.region ?_
 refine GoO.pure (ps_assign rfl rfl) ?_
 refine GoO.pure (ps_assign rfl rfl) ?_
 refine GoO.nil ?_
 refine GoK.code ?_
 obtain rfl := Option.some.inj H
 obtain rfl := Option.some.inj hF17
 obtain rfl := Option.some.inj HK16
 exact GoC.retL (ds := [.v (.int .i64 0), .v (.int .i64 0)]) Try.results33 (ResL.cons (ResD.tmp rfl) (ResL.cons (ResD.tmp rfl) (ResL.nil))) (Take.nil _) ⟨rfl, rfl⟩
 replace H := ite_f h30 H
 refine GoC.skip ?_
 refine GoK.blk ?_
 refine GoK.blk ?_
 refine GoK.code ?_
 refine GoC.region ?_
 refine GoO.pure (ps_add rfl rfl rfl hIk21) ?_
 refine GoO.pure (ps_move rfl rfl) ?_
 refine GoO.nil ?_
 obtain rfl := Option.some.inj H
 exact GoK.againJ m22' (by omega) ⟨_, _, _, ⟨by omega, hF17⟩, rfl, rfl⟩ (EnvD.eq rfl (EnvD.eq rfl (EnvD.eq rfl (EnvD.eq rfl (EnvD.eq rfl (EnvD.eq rfl (EnvD.eq rfl (EnvD.eq rfl (EnvD.nil))))))))) (TkD.cons _ _ _ _ _ Rem.p0 (HLe.refl _) (TkD.cons _ _ _ _ _ Rem.p0 (HLe.refl _) (TkD.cons _ _ _ _ _ Rem.p0 (HLe.refl _) (TkD.cons _ _ _ _ _ Rem.p0 (HLe.st ⟨⟨trivial, DLe.refl _⟩, DLe.refl _⟩) (TkD.nil _)))))
 obtain rfl : m22 = 0 := by omega
 refine GoC.exit rfl ?_
 cases hF17
 exact GoK.meet ⟨_, _, rfl, rfl, rfl⟩ (EnvD.eq rfl (EnvD.eq rfl (EnvD.eq rfl (EnvD.eq rfl (EnvD.nil))))) (TkD.cons _ _ _ _ _ Rem.p0 (HLe.refl _) (TkD.cons _ _ _ _ _ Rem.p0 (HLe.refl _) (TkD.cons _ _ _ _ _ Rem.p0 (HLe.refl _) (TkD.cons _ _ _ _ _ Rem.p0 (HLe.st ⟨⟨trivial, DLe.refl _⟩, DLe.refl _⟩) (TkD.nil _)))))
 rintro v h ⟨n19, n20, rfl, rfl, rfl⟩
 have H := HK16; clear HK16
 refine GoK.code ?_
 refine GoC.seq ?_
 refine GoC.seq ?_
 refine GoC.region ?_
 refine GoO.pure (ps_fieldAddr rfl rfl) ?_
 refine GoO.pure (ps_load rfl At.p3 At.p3 Nat.zero_lt_one rfl rfl) ?_
 refine GoO.pure (ps_len rfl (by constructor) rfl) ?_
 refine GoO.lenLe (n := g.as.length) (x := .tmp 58) rfl (by constructor) sl_lenLe (fun ml32 => ?_)
 refine GoO.pure (ps_move rfl rfl) ?_
 refine GoO.nil ?_
 refine GoK.code ?_
 have hb := bind_l H; clear H
 obtain ⟨q35, hl43, HK33⟩ := hb
 refine GoC.blockJ [(9, .v (.int .i64 ((n19 : Nat) : Int))), (10, .v (.int .i64 ((n20 : Nat) : Int)))] [.one β10 3 1 (row r9), .one β3 3 1 (row r2), .one β5 3 1 (row r4), .one β1 33 2 (st1 (nth [.v (.int .i64 g.n), slD g.as]))] (fun v h => q35 = .go () ∧ v = [] ∧ h = []) ?_ ?_
 refine GoC.loopJ [(1, _), (7, _), (9, _), (10, _), (58, _), (59, _)] [.one β10 3 1 (row r9), .one β3 3 1 (row r2), .one β5 3 1 (row r4), .one β1 33 2 (st1 (nth [.v (.int .i64 g.n), slD g.as]))] (fun m v h => ∃ (k36 : Nat), (k36 + m = g.as.length ∧ forC (euler_Can_B2 g r9) m k36 () = some q35) ∧ v = [(60, .v (.int .i64 ((k36 : Nat) : Int)))] ∧ h = []) g.as.length ⟨_, ⟨by omega, hl43⟩, rfl, rfl⟩ (EnvD.eq rfl (EnvD.eq rfl (EnvD.eq rfl (EnvD.eq rfl (EnvD.eq rfl (EnvD.eq rfl (EnvD.eq rfl (EnvD.nil)))))))) (TkD.cons _ _ _ _ _ Rem.p0 (HLe.refl _) (TkD.cons _ _ _ _ _ Rem.p0 (HLe.refl _) (TkD.cons _ _ _ _ _ Rem.p0 (HLe.refl _) (TkD.cons _ _ _ _ _ Rem.p0 (HLe.st ⟨⟨trivial, DLe.refl _⟩, DLe.refl _⟩) (TkD.nil _))))) ?_
 rintro m37 v h ⟨k36, ⟨hkk36, hF34⟩, rfl, rfl⟩
 refine GoC.seq ?_
 refine GoC.region ?_
 refine GoO.pure (ps_lss rfl rfl rfl) ?_
 refine GoO.nil ?_
 refine GoK.code ?_
 refine GoC.seq ?_
 refine GoC.condD rfl (fun (hk36 : (k36 : Int) < ((g.as.length : Nat) : Int)) => ?_) (fun (hk36 : ¬ (k36 : Int) < ((g.as.length : Nat) : Int)) => ?_)
 obtain ⟨m37', rfl⟩ : ∃ x, m37 = x + 1 := ⟨m37 - 1, by omega⟩
 have hb := bind_l hF34; clear hF34
 obtain ⟨qrm37, H, hF34⟩ := hb
 have hnk36 : k36 < g.as.length := by omega
 have hIk36 : InI ((k36 : Int) + 1) := inI_len hk36 ml32
 refine GoC.skip ?_
 refine GoK.code ?_
 refine GoC.seq ?_
 refine GoC.block ?_
 refine GoC.seq ?_
 refine GoC.region ?_
 refine GoO.pure (ps_indexAddrRN rfl rfl hnk36 rfl) ?_
 refine GoO.pure (ps_loadAgR rfl hnk36 rfl rfl) ?_
 refine GoO.effB (ef_alloc rfl) (fun β38 => ?_)
 refine GoO.eff1 (ef_storeAg rfl rfl At.p0 upd_whole Nat.zero_lt_one rfl) ?_
 refine GoO.nil ?_
 refine GoK.code ?_
 refine GoC.seq ?_
 refine GoC.drawA (.q 0 (.q 1 (.q 2 (.q 3 (.q 4 (.q 5 (.q 6 (.q 7 (.q 8 (.q 9 (.q 10 (.q 11 (.q 12 (.q 13 (.done))))))))))))))) follows (by kernel_rfl) ?_
 refine GoP.qN rfl (ps_move rfl rfl) ?_
 refine GoP.qN rfl (ps_fieldAddr rfl rfl) ?_
 refine GoP.qN rfl (ps_load rfl At.p0 At.p0 Nat.zero_lt_one rfl rfl) ?_
 have c39 := ck_l H; replace H := ck_r H
 refine GoP.qN rfl (ps_indexAddr0 rfl rfl c39 rfl) ?_
 refine GoP.qN rfl (ps_load rfl At.p1 At.p1 (idx_lt c39) rfl rfl) ?_
 refine GoP.qN rfl (ps_move rfl rfl) ?_
 refine GoP.qN rfl (ps_fieldAddr rfl rfl) ?_
 refine GoP.qN rfl (ps_load rfl At.p4 At.p4 Nat.zero_lt_one rfl rfl) ?_
 have c40 := ck_l H; replace H := ck_r H
 refine GoP.qN rfl (ps_indexAddrRN (i := 0) rfl rfl c40 rfl) ?_
 refine GoP.qN rfl (ps_fieldAddrR rfl rfl) ?_
 refine GoP.qN rfl (ps_loadR rfl c40 rfl rfl) ?_
 have c41 := ck_l H; replace H := ck_r H
 refine GoP.qN rfl (ps_indexAddr0 rfl rfl c41 rfl) ?_
 refine GoP.qN rfl (ps_load rfl At.p1 At.p1 (idx_lt c41) rfl rfl) ?_
 refine GoP.qN rfl (ps_neq rfl rfl rfl) ?_
 refine GoP.done ?_
 refine GoK.code ?_
 refine GoC.condD rfl (fun h42 => ?_) (fun h42 => ?_)
 replace H := ite_t h42 H
 refine GoC.seq ?_
 refine GoC.region ?_
 refine GoO.pure (ps_assign rfl rfl) ?_
 refine GoO.pure (ps_assign rfl rfl) ?_
 refine GoO.nil ?_
 refine GoK.code ?_
 obtain rfl := Option.some.inj H
 obtain rfl := Option.some.inj hF34
 obtain rfl := Option.some.inj HK33
 exact GoC.retL (ds := [.v (.int .i64 0), .v (.int .i64 0)]) Try.results33 (ResL.cons (ResD.tmp rfl) (ResL.cons (ResD.tmp rfl) (ResL.nil))) (Take.nil _) ⟨rfl, rfl⟩
 replace H := ite_f h42 H
 refine GoC.skip ?_
 refine GoK.blk ?_
 refine GoK.code ?_
 refine GoC.region ?_
 refine GoO.pure (ps_add rfl rfl rfl hIk36) ?_
 refine GoO.pure (ps_move rfl rfl) ?_
 refine GoO.nil ?_
 obtain rfl := Option.some.inj H
 exact GoK.againJ m37' (by omega) ⟨_, ⟨by omega, hF34⟩, rfl, rfl⟩ (EnvD.eq rfl (EnvD.eq rfl (EnvD.eq rfl (EnvD.eq rfl (EnvD.eq rfl (EnvD.eq rfl (EnvD.eq rfl (EnvD.nil)))))))) (TkD.cons _ _ _ _ _ Rem.p1 (HLe.refl _) (TkD.cons _ _ _ _ _ Rem.p1 (HLe.refl _) (TkD.cons _ _ _ _ _ Rem.p1 (HLe.refl _) (TkD.cons _ _ _ _ _ Rem.p1 (HLe.st ⟨⟨trivial, DLe.refl _⟩, DLe.refl _⟩) (TkD.nil _)))))
 obtain rfl : m37 = 0 := by omega
 refine GoC.exit rfl ?_
 cases hF34
 exact GoK.meet ⟨rfl, rfl, rfl⟩ (EnvD.eq rfl (EnvD.eq rfl (EnvD.nil))) (TkD.cons _ _ _ _ _ Rem.p0 (HLe.refl _) (TkD.cons _ _ _ _ _ Rem.p0 (HLe.refl _) (TkD.cons _ _ _ _ _ Rem.p0 (HLe.refl _) (TkD.cons _ _ _ _ _ Rem.p0 (HLe.st ⟨⟨trivial, DLe.refl _⟩, DLe.refl _⟩) (TkD.nil _)))))
 rintro v h ⟨rfl, rfl, rfl⟩
 have H := HK33; clear HK33
 refine GoK.code ?_
 refine GoC.seq ?_
 refine GoC.seq ?_
 refine GoC.region ?_
 refine GoO.pure (ps_move rfl rfl) ?_
 refine GoO.pure (ps_eql rfl rfl rfl) ?_
 refine GoO.nil ?_
 refine GoK.code ?_
 refine GoC.condD rfl (fun h44 => ?_) (fun h44 => ?_)
 replace H := ite_t h44 H
 refine GoC.seq ?_
 refine GoC.region ?_
 refine GoO.pure (ps_assign rfl rfl) ?_
 refine GoO.pure (ps_assign rfl rfl) ?_
 refine GoO.nil ?_
 refine GoK.code ?_
 obtain rfl := Option.some.inj H
 exact GoC.retL (ds := [.v (.int .i64 2), .v (.int .i64 0)]) Try.results33 (ResL.cons (ResD.tmp rfl) (ResL.cons (ResD.tmp rfl) (ResL.nil))) (Take.nil _) ⟨rfl, rfl⟩
 replace H := ite_f h44 H
 refine GoC.skip ?_
 refine GoK.code ?_
 refine GoC.seq ?_
 refine GoC.seq ?_
 refine GoC.region ?_
 refine GoO.pure (ps_move rfl rfl) ?_
 refine GoO.pure (ps_eql rfl rfl rfl) ?_
 refine GoO.pure (ps_move rfl rfl) ?_
 refine GoO.guardD rfl rfl rfl rfl (fun h45 => ?_) (fun h45 => ?_)
 replace H := ite_t h45 H
 refine GoO.pure (ps_move rfl rfl) ?_
 refine GoO.guardT rfl rfl rfl ?_
 refine GoO.pure (ps_eql rfl rfl rfl) ?_
 refine GoO.pure (ps_pickT rfl rfl rfl) ?_
 refine GoO.nil ?_
 refine GoK.code ?_
 refine GoC.condD rfl (fun h46 => ?_) (fun h46 => ?_)
 replace H := ite_t h46 H
 refine GoC.seq ?_
 refine GoC.region ?_
 refine GoO.pure (ps_assign rfl rfl) ?_
 refine GoO.pure (ps_assign rfl rfl) ?_
 refine GoO.nil ?_
 refine GoK.code ?_
 obtain rfl := Option.some.inj H
 exact GoC.retL (ds := [.v (.int .i64 1), .v (.int .i64 0)]) Try.results33 (ResL.cons (ResD.tmp rfl) (ResL.cons (ResD.tmp rfl) (ResL.nil))) (Take.nil _) ⟨rfl, rfl⟩
 replace H := ite_f h46 H
 refine GoC.skip ?_
 refine GoK.code ?_
 refine GoC.seq ?_
 refine GoC.region ?_
 refine GoO.pure (ps_assign rfl rfl) ?_
 refine GoO.pure (ps_assign rfl rfl) ?_
 refine GoO.nil ?_
 refine GoK.code ?_
 obtain rfl := Option.some.inj H
 exact GoC.retL (ds := [.v (.int .i64 0), .v (.int .i64 0)]) Try.results33 (ResL.cons (ResD.tmp rfl) (ResL.cons (ResD.tmp rfl) (ResL.nil))) (Take.nil _) ⟨rfl, rfl⟩
 replace H := ite_f h45 H
 refine GoO.guardF rfl rfl rfl rfl ?_
 refine GoO.pure (ps_pickF rfl rfl rfl) ?_
 refine GoO.nil ?_
 refine GoK.code ?_
 refine GoC.condF rfl ?_
 refine GoC.skip ?_
 refine GoK.code ?_
 refine GoC.seq ?_
 refine GoC.region ?_
 refine GoO.pure (ps_assign rfl rfl) ?_
 refine GoO.pure (ps_assign rfl rfl) ?_
 refine GoO.nil ?_
 refine GoK.code ?_
 obtain rfl := Option.some.inj H
 exact GoC.retL (ds := [.v (.int .i64 0), .v (.int .i64 0)]) Try.results33 (ResL.cons (ResD.tmp rfl) (ResL.cons (ResD.tmp rfl) (ResL.nil))) (Take.nil _) ⟨rfl, rfl⟩

def euler_Trail_c1_F (p0 : Arc) (c_0 : Int) : Option (Bool) :=
 some (decide (p0.f = c_0))
def euler_Trail_c1_P (out : Bool) (d : D) (H : List HL) : Prop := d = .v (.bool out) ∧ H = []
theorem euler_Trail_c1_I (out : Bool) : IndepP (euler_Trail_c1_P out) := IndepP.of (by rintro _ _ ⟨rfl, rfl⟩; exact ⟨inferInstance, inferInstance⟩)
set_option maxRecDepth 100000 in
set_option maxHeartbeats 4000000 in
theorem euler_Trail_c1_spec (p0 : Arc) (c_0 : Int) {out : Bool} (H : euler_Trail_c1_F p0 c_0 = some out) : Does Try.prog 53 [.ag 3 (nth [.v (.int .i64 p0.f), .v (.int .i64 p0.t), .v (.int .i64 p0.c)]), .rp 1 1 (row [c_0]).get 0 0] [] (euler_Trail_c1_P out) := by
 unfold euler_Trail_c1_F at H
 refine Does.intro Try.func53 rfl Try.ntmps53 rfl fun w0 I0 => ?_
 refine GoC.seq ?_
 refine GoC.region ?_
 refine GoO.effB (ef_boxAg rfl rfl) (fun β1 => ?_)
 refine GoO.pure (ps_assign rfl rfl) ?_
 refine GoO.nil ?_
 refine GoK.code ?_
 refine GoC.seq ?_
 refine GoC.region ?_
 refine GoO.pure (ps_fieldAddr rfl rfl) ?_
 refine GoO.pure (ps_load rfl At.p0 At.p0 Nat.zero_lt_one rfl rfl) ?_
 refine GoO.pure (ps_loadR rfl Nat.zero_lt_one rfl rfl) ?_
 refine GoO.pure (ps_eql rfl rfl rfl) ?_
 refine GoO.pure (ps_assign rfl rfl) ?_
 refine GoO.nil ?_
 refine GoK.code ?_
 obtain rfl := Option.some.inj H
 exact GoC.retL (ds := [.v (.bool (decide (p0.f = c_0)))]) Try.results53 (ResL.cons (ResD.tmp rfl) (ResL.nil)) (Take.nil _) ⟨rfl, rfl⟩

def slices_IndexFunc_Arc_euler_Trail_c1_B1 (p0 : (List Arc)) (c1_0 : Int) : Nat → Unit → Option (Ct (Unit) (Int)) := fun k5 _ =>
 (euler_Trail_c1_F (p0.getD k5 El.d) c1_0).bind fun r7 =>
 if r7 = true then
  some (.ret ((k5 : Nat) : Int))
 else
  some (.go ())
def slices_IndexFunc_Arc_euler_Trail_c1_F (p0 : (List Arc)) (c1_0 : Int) : Option (Int) :=
 (forC (slices_IndexFunc_Arc_euler_Trail_c1_B1 p0 c1_0) p0.length 0 ()).bind fun q => match q with
 | .go _ =>
  some (-1)
 | .ret x => some x
def slices_IndexFunc_Arc_euler_Trail_c1_P (out : Int) (d : D) (H : List HL) : Prop := d = .v (.int .i64 out) ∧ H = []
theorem slices_IndexFunc_Arc_euler_Trail_c1_I (out : Int) : IndepP (slices_IndexFunc_Arc_euler_Trail_c1_P out) := IndepP.of (by rintro _ _ ⟨rfl, rfl⟩; exact ⟨inferInstance, inferInstance⟩)
set_option maxRecDepth 100000 in
set_option maxHeartbeats 4000000 in
theorem slices_IndexFunc_Arc_euler_Trail_c1_spec (p0 : (List Arc)) (c1_0 : Int) {out : Int} (H : slices_IndexFunc_Arc_euler_Trail_c1_F p0 c1_0 = some out) : Does Try.prog 52 [slD p0, .fn 53 1 (nth [.rp 1 1 (row [c1_0]).get 0 0])] [] (slices_IndexFunc_Arc_euler_Trail_c1_P out) := by
 unfold slices_IndexFunc_Arc_euler_Trail_c1_F at H
 refine Does.intro Try.func52 rfl Try.ntmps52 rfl fun w0 I0 => ?_
 refine GoC.seq ?_
 refine GoC.region ?_
 refine GoO.pure (ps_assign rfl rfl) ?_
 refine GoO.nil ?_
 refine GoK.code ?_
 refine GoC.seq ?_
 refine GoC.seq ?_
 refine GoC.region ?_
 refine GoO.pure (ps_move rfl rfl) ?_
 refine GoO.pure (ps_len rfl (by constructor) rfl) ?_
 refine GoO.lenLe (n := p0.length) (x := .tmp 6) rfl (by constructor) sl_lenLe (fun ml1 => ?_)
 refine GoO.pure (ps_move rfl rfl) ?_
 refine GoO.nil ?_
 refine GoK.code ?_
 have hb := bind_l H; clear H
 obtain ⟨q4, hl10, HK2⟩ := hb
 refine GoC.blockJ [] [] (fun v h => q4 = .go () ∧ v = [] ∧ h = []) ?_ ?_
 refine GoC.loopJ [(0, _), (1, _), (7, _)] [] (fun m v h => ∃ (k5 : Nat), (k5 + m = p0.length ∧ forC (slices_IndexFunc_Arc_euler_Trail_c1_B1 p0 c1_0) m k5 () = some q4) ∧ v = [(8, .v (.int .i64 ((k5 : Nat) : Int)))] ∧ h = []) p0.length ⟨_, ⟨by omega, hl10⟩, rfl, rfl⟩ (EnvD.eq rfl (EnvD.eq rfl (EnvD.eq rfl (EnvD.eq rfl (EnvD.nil))))) (TkD.nil _) ?_
 rintro m6 v h ⟨k5, ⟨hkk5, hF3⟩, rfl, rfl⟩
 refine GoC.seq ?_
 refine GoC.region ?_
 refine GoO.pure (ps_lss rfl rfl rfl) ?_
 refine GoO.nil ?_
 refine GoK.code ?_
 refine GoC.seq ?_
 refine GoC.condD rfl (fun (hk5 : (k5 : Int) < ((p0.length : Nat) : Int)) => ?_) (fun (hk5 : ¬ (k5 : Int) < ((p0.length : Nat) : Int)) => ?_)
 obtain ⟨m6', rfl⟩ : ∃ x, m6 = x + 1 := ⟨m6 - 1, by omega⟩
 have hb := bind_l hF3; clear hF3
 obtain ⟨qrm6, H, hF3⟩ := hb
 have hnk5 : k5 < p0.length := by omega
 have hIk5 : InI ((k5 : Int) + 1) := inI_len hk5 ml1
 refine GoC.skip ?_
 refine GoK.code ?_
 refine GoC.seq ?_
 refine GoC.block ?_
 refine GoC.seq ?_
 refine GoC.region ?_
 refine GoO.pure (ps_move rfl rfl) ?_
 refine GoO.pure (ps_assign rfl rfl) ?_
 refine GoO.nil ?_
 refine GoK.code ?_
 refine GoC.seq ?_
 refine GoC.region ?_
 refine GoO.pure (ps_move rfl rfl) ?_
 refine GoO.pure (ps_move rfl rfl) ?_
 refine GoO.pure (ps_move rfl rfl) ?_
 refine GoO.pure (ps_indexAddrRN rfl rfl hnk5 rfl) ?_
 refine GoO.pure (ps_loadAgR rfl hnk5 rfl rfl) ?_
 have hb := bind_l H; clear H
 obtain ⟨r7, e8, H⟩ := hb
 refine GoO.effC (ef_callv rfl rfl rfl (Take.nil _) (Take.nil _) (euler_Trail_c1_spec (p0.getD k5 El.d) c1_0 e8) (LendL.cons (Lend.agA ⟨⟨⟨trivial, Lend.refl _ _⟩, Lend.refl _ _⟩, Lend.refl _ _⟩) (LendL.cons (Lend.refl _ _) (LendL.nil))) rfl (euler_Trail_c1_I (r7))) (fun rr HH hp => ?_)
 obtain ⟨rfl, rfl⟩ := hp
 refine GoO.nil ?_
 refine GoK.code ?_
 refine GoC.cond rfl (fun h9 => ?_) (fun h9 => ?_)
 replace H := itb_t h9 H
 refine GoC.seq ?_
 refine GoC.region ?_
 refine GoO.pure (ps_move rfl rfl) ?_
 refine GoO.pure (ps_assign rfl rfl) ?_
 refine GoO.nil ?_
 refine GoK.code ?_
 obtain rfl := Option.some.inj H
 obtain rfl := Option.some.inj hF3
 obtain rfl := Option.some.inj HK2
 exact GoC.retL (ds := [.v (.int .i64 ((k5 : Nat) : Int))]) Try.results52 (ResL.cons (ResD.tmp rfl) (ResL.nil)) (Take.nil _) ⟨rfl, rfl⟩
 replace H := itb_f h9 H
 refine GoC.skip ?_
 refine GoK.blk ?_
 refine GoK.code ?_
 refine GoC.region ?_
 refine GoO.pure (ps_add rfl rfl rfl hIk5) ?_
 refine GoO.pure (ps_move rfl rfl) ?_
 refine GoO.nil ?_
 obtain rfl := Option.some.inj H
 exact GoK.againJ m6' (by omega) ⟨_, ⟨by omega, hF3⟩, rfl, rfl⟩ (EnvD.eq rfl (EnvD.eq rfl (EnvD.eq rfl (EnvD.eq rfl (EnvD.nil))))) (TkD.nil _)
 obtain rfl : m6 = 0 := by omega
 refine GoC.exit rfl ?_
 cases hF3
 exact GoK.meet ⟨rfl, rfl, rfl⟩ (EnvD.nil) (TkD.nil _)
 rintro v h ⟨rfl, rfl, rfl⟩
 have H := HK2; clear HK2
 refine GoK.code ?_
 refine GoC.seq ?_
 refine GoC.region ?_
 refine GoO.pure (ps_assign rfl rfl) ?_
 refine GoO.nil ?_
 refine GoK.code ?_
 obtain rfl := Option.some.inj H
 exact GoC.retL (ds := [.v (.int .i64 (-1))]) Try.results52 (ResL.cons (ResD.tmp rfl) (ResL.nil)) (Take.nil _) ⟨rfl, rfl⟩

def euler_Trail_B1 (r2 : Int) (r7 : (List Int)) (r9 : (List Int)) : (Int × Int) → Option (Ct (Int × Int) ((List Int) × Int)) := fun (x14, x15) =>
 if 0 ≤ x15 then
  if r2 = 2 then
   ck (0 ≤ x15 ∧ x15 < ((r7.length : Nat) : Int)) <|
   if 0 < (r7.getD x15.toNat (0 : Int)) then
    ck (InI (x15 - 1)) <|
    some (.go (x15, (x15 - 1)))
   else
    ck (0 ≤ x15 ∧ x15 < ((r9.length : Nat) : Int)) <|
    if (r9.getD x15.toNat (0 : Int)) < (r7.getD x15.toNat (0 : Int)) then
     ck (InI (x15 - 1)) <|
     some (.go (x15, (x15 - 1)))
    else
     ck (InI (x15 - 1)) <|
     some (.go (x14, (x15 - 1)))
  else
   ck (0 ≤ x15 ∧ x15 < ((r7.length : Nat) : Int)) <|
   ck (0 ≤ x15 ∧ x15 < ((r9.length : Nat) : Int)) <|
   if (r9.getD x15.toNat (0 : Int)) < (r7.getD x15.toNat (0 : Int)) then
    ck (InI (x15 - 1)) <|
    some (.go (x15, (x15 - 1)))
   else
    ck (InI (x15 - 1)) <|
    some (.go (x14, (x15 - 1)))
 else
  some (.brk (x14, x15))
def euler_Trail_B3 (g : Graph) (l41 : (List Bool)) (x46 : Int) : Int → Option (Ct (Int) (Ct ((List Bool) × (List Int) × (List Int) × Int) ((List Int) × Int))) := fun x57 =>
 ((
  if 0 ≤ x57 then
   ck (0 ≤ x57 ∧ x57 < ((l41.length : Nat) : Int)) <|
   if (l41.getD x57.toNat false) = true then
    some (.go ())
   else
    ck (0 ≤ x57 ∧ x57 < ((g.as.length : Nat) : Int)) <|
    if ((g.as.getD x57.toNat El.d).f) ≠ x46 then
     some (.go ())
    else
     some (.ret (.brk x57))
  else
   some (.ret (.brk x57))) : Option (Ex (Unit) (Ct (Int) (Ct ((List Bool) × (List Int) × (List Int) × Int) ((List Int) × Int))))).bind fun q => match q with
 | .go () =>
  ck (InI (x57 + 1)) <|
  if (x57 + 1) = ((g.as.length : Nat) : Int) then
   some (.go (-1))
  else
   some (.go (x57 + 1))
 | .ret x => some x
def euler_Trail_B2 (g : Graph) : ((List Bool) × (List Int) × (List Int) × Int) → Option (Ct ((List Bool) × (List Int) × (List Int) × Int) ((List Int) × Int)) := fun (l41, l43, l45, x46) =>
 (slices_IndexFunc_Arc_euler_Trail_c1_F g.as x46).bind fun r55 =>
 (loopC (euler_Trail_B3 g l41 x46) 1000000 r55).bind fun q => match q with
 | .go x61 =>
  if 0 ≤ x61 then
   ck (0 ≤ x61 ∧ x61 < ((l41.length : Nat) : Int)) <|
   ck (l45.length + 1 ≤ 17592186044416) <|
   ck (0 ≤ x61 ∧ x61 < ((g.as.length : Nat) : Int)) <|
   some (.go ((l41.set x61.toNat true), l43, (l45 ++ ([x61] : List Int)), (g.as.getD x61.toNat El.d).t))
  else
   if ((l45.length : Nat) : Int) = 0 then
    some (.brk (l41, l43, l45, x46))
   else
    ck (InI (((l45.length : Nat) : Int) - 1)) <|
    ck (0 ≤ (((l45.length : Nat) : Int) - 1) ∧ (((l45.length : Nat) : Int) - 1) < ((l45.length : Nat) : Int)) <|
    ck (0 ≤ (((l45.length : Nat) : Int) - 1)) <|
    ck ((((l45.length : Nat) : Int) - 1).toNat ≤ l45.length) <|
    ck (l43.length + 1 ≤ 17592186044416) <|
    ck (0 ≤ (l45.getD ((((l45.length : Nat) : Int) - 1).toNat) (0 : Int)) ∧ (l45.getD ((((l45.length : Nat) : Int) - 1).toNat) (0 : Int)) < ((g.as.length : Nat) : Int)) <|
    some (.go (l41, (l43 ++ ([(l45.getD ((((l45.length : Nat) : Int) - 1).toNat) (0 : Int))] : List Int)), (subl l45 0 ((((l45.length : Nat) : Int) - 1).toNat)), (g.as.getD ((l45.getD ((((l45.length : Nat) : Int) - 1).toNat) (0 : Int)).toNat) El.d).f))
 | .ret x => some x
def euler_Trail_F (g : Graph) : Option ((List Int) × Int) :=
 (euler_Can_F g).bind fun (r2, r3) =>
 if r3 ≠ 0 then
  some ([], r3)
 else
  if r2 = 0 then
   some ([], 5)
  else
   (graph_Degrees_F g).bind fun (r7, r9, r11) =>
   ck (InI (g.n - 1)) <|
   (loopC (euler_Trail_B1 r2 r7 r9) 1000000 (0, (g.n - 1))).bind fun q => match q with
   | .go (x19, x20) =>
    ck (0 ≤ ((g.as.length : Nat) : Int) ∧ ((g.as.length : Nat) : Int) ≤ 10000000000) <|
    (loopC (euler_Trail_B2 g) 1000000 ((List.replicate (((g.as.length : Nat) : Int).toNat) false), [], [], x19)).bind fun q => match q with
    | .go (l50, l51, l52, x53) =>
     (slices_Reverse_int_F l51).bind fun l91 =>
     ck (l91.length = l51.length) <|
     some (l91, 0)
    | .ret x => some x
   | .ret x => some x
def euler_Trail_P (out : (List Int) × Int) (d : D) (H : List HL) : Prop := ∃ β1 : BK, d = .tp 2 (nth [.own β1 1 0 out.1.length, .v (.int .i64 out.2)]) ∧ H = [.one β1 3 1 (row out.1)]
theorem euler_Trail_I (out : (List Int) × Int) : IndepP (euler_Trail_P out) := IndepP.of (by rintro _ _ ⟨β1, rfl, rfl⟩; exact ⟨inferInstance, inferInstance⟩)
set_option maxRecDepth 100000 in
set_option maxHeartbeats 4000000 in
theorem euler_Trail_spec (g : Graph) {out : (List Int) × Int} (H : euler_Trail_F g = some out) : Does Try.prog 34 [.ag 2 (nth [.v (.int .i64 g.n), slD g.as])] [] (euler_Trail_P out) := by
 unfold euler_Trail_F at H
 refine Does.intro Try.func34 rfl Try.ntmps34 rfl fun w0 I0 => ?_
 refine GoC.seq ?_
 refine GoC.region ?_
 refine GoO.effB (ef_boxAg rfl rfl) (fun β1 => ?_)
 refine GoO.pure (ps_assign rfl rfl) ?_
 refine GoO.pure (ps_assign rfl rfl) ?_
 refine GoO.nil ?_
 refine GoK.code ?_
 refine GoC.seq ?_
 refine GoC.region ?_
 refine GoO.pure (ps_loadAg rfl At.p0 At.p0 Nat.zero_lt_one rfl rfl) ?_
 have hb := bind_l H; clear H
 obtain ⟨⟨r2, r3⟩, e4, H⟩ := hb
 refine GoO.effC (ef_call rfl (Take.nil _) (Take.nil _) (euler_Can_spec g e4) (LendL.cons (Lend.agA ⟨⟨trivial, Lend.refl _ _⟩, Lend.refl _ _⟩) (LendL.nil)) rfl (euler_Can_I (r2, r3))) (fun rr HH hp => ?_)
 obtain ⟨rfl, rfl⟩ := hp
 refine GoO.pure (ps_move rfl rfl) ?_
 refine GoO.pure (ps_extract rfl rfl rfl) ?_
 refine GoO.pure (ps_extract rfl rfl rfl) ?_
 refine GoO.pure (ps_assign rfl rfl) ?_
 refine GoO.pure (ps_assign rfl rfl) ?_
 refine GoO.nil ?_
 refine GoK.code ?_
 refine GoC.seq ?_
 refine GoC.seq ?_
 refine GoC.region ?_
 refine GoO.pure (ps_move rfl rfl) ?_
 refine GoO.pure (ps_neq rfl rfl rfl) ?_
 refine GoO.nil ?_
 refine GoK.code ?_
 refine GoC.condD rfl (fun h5 => ?_) (fun h5 => ?_)
 replace H := ite_t h5 H
 refine GoC.seq ?_
 refine GoC.region ?_
 refine GoO.pure (ps_move rfl rfl) ?_
 refine GoO.pure (ps_assign rfl rfl) ?_
 refine GoO.pure (ps_assign rfl rfl) ?_
 refine GoO.nil ?_
 refine GoK.code ?_
 obtain rfl := Option.some.inj H
 refine GoC.le (le_row0 3 1 (row ([] : List Int)) rfl) ?_
 exact GoC.retL (ds := [.own ⟨0, 0, 0⟩ 1 0 0, .v (.int .i64 r3)]) Try.results34 (ResL.cons (ResD.le (ResD.tmp rfl) (by exact DLe.nilOwn)) (ResL.cons (ResD.tmp rfl) (ResL.nil))) (Take.cons _ _ _ _ _ Rem.p0 (Take.nil _)) ⟨⟨0, 0, 0⟩, rfl, rfl⟩
 replace H := ite_f h5 H
 refine GoC.skip ?_
 refine GoK.code ?_
 refine GoC.seq ?_
 refine GoC.seq ?_
 refine GoC.region ?_
 refine GoO.pure (ps_move rfl rfl) ?_
 refine GoO.pure (ps_eql rfl rfl rfl) ?_
 refine GoO.nil ?_
 refine GoK.code ?_
 refine GoC.condD rfl (fun h6 => ?_) (fun h6 => ?_)
 replace H := ite_t h6 H
 refine GoC.seq ?_
 refine GoC.region ?_
 refine GoO.pure (ps_assign rfl rfl) ?_
 refine GoO.pure (ps_assign rfl rfl) ?_
 refine GoO.nil ?_
 refine GoK.code ?_
 obtain rfl := Option.some.inj H
 refine GoC.le (le_row0 3 1 (row ([] : List Int)) rfl) ?_
 exact GoC.retL (ds := [.own ⟨0, 0, 0⟩ 1 0 0, .v (.int .i64 5)]) Try.results34 (ResL.cons (ResD.le (ResD.tmp rfl) (by exact DLe.nilOwn)) (ResL.cons (ResD.tmp rfl) (ResL.nil))) (Take.cons _ _ _ _ _ Rem.p0 (Take.nil _)) ⟨⟨0, 0, 0⟩, rfl, rfl⟩
 replace H := ite_f h6 H
 refine GoC.skip ?_
 refine GoK.code ?_
 refine GoC.seq ?_
 refine GoC.region ?_
 refine GoO.pure (ps_loadAg rfl At.p0 At.p0 Nat.zero_lt_one rfl rfl) ?_
 have hb := bind_l H; clear H
 obtain ⟨⟨r7, r9, r11⟩, e12, H⟩ := hb
 refine GoO.effC (ef_call rfl (Take.nil _) (Take.nil _) (graph_Degrees_spec g e12) (LendL.cons (Lend.agA ⟨⟨trivial, Lend.refl _ _⟩, Lend.refl _ _⟩) (LendL.nil)) rfl (graph_Degrees_I (r7, r9, r11))) (fun rr HH hp => ?_)
 obtain ⟨β8, β10, rfl, rfl⟩ := hp
 refine GoO.pure (ps_move rfl rfl) ?_
 refine GoO.pure (ps_extract rfl rfl rfl) ?_
 refine GoO.pure (ps_extract rfl rfl rfl) ?_
 refine GoO.pure (ps_extract rfl rfl rfl) ?_
 refine GoO.pure (ps_assign rfl rfl) ?_
 refine GoO.pure (ps_assign rfl rfl) ?_
 refine GoO.pure (ps_assign rfl rfl) ?_
 refine GoO.nil ?_
 refine GoK.code ?_
 refine GoC.seq ?_
 refine GoC.region ?_
 refine GoO.pure (ps_assign rfl rfl) ?_
 refine GoO.nil ?_
 refine GoK.code ?_
 refine GoC.seq ?_
 refine GoC.seq ?_
 refine GoC.region ?_
 refine GoO.pure (ps_fieldAddr rfl rfl) ?_
 refine GoO.pure (ps_load rfl At.p2 At.p2 Nat.zero_lt_one rfl rfl) ?_
 have c13 := ck_l H; replace H := ck_r H
 refine GoO.pure (ps_sub rfl rfl rfl c13) ?_
 refine GoO.pure (ps_assign rfl rfl) ?_
 refine GoO.nil ?_
 refine GoK.code ?_
 have hb := bind_l H; clear H
 obtain ⟨q18, hl36, HK16⟩ := hb
 refine GoC.blockJ [(1, .ptr β1 2 0 0)] [.one β8 3 1 (row r7), .one β10 3 1 (row r9), .one β1 33 2 (st1 (nth [.v (.int .i64 g.n), slD g.as]))] (fun v h => ∃ (x19 : Int) (x20 : Int), q18 = .go (x19, x20) ∧ v = [(9, .v (.int .i64 x19))] ∧ h = []) ?_ ?_
 refine GoC.loopJ [(1, _), (4, _), (6, _), (7, _)] [.one β8 3 1 (row r7), .one β10 3 1 (row r9), .one β1 33 2 (st1 (nth [.v (.int .i64 g.n), slD g.as]))] (fun m v h => ∃ (x14 : Int) (x15 : Int), loopC (euler_Trail_B1 r2 r7 r9) m (x14, x15) = some q18 ∧ v = [(9, .v (.int .i64 x14)), (10, .v (.int .i64 x15))] ∧ h = []) 1000000 ⟨_, _, hl36, rfl, rfl⟩ (EnvD.eq rfl (EnvD.eq rfl (EnvD.eq rfl (EnvD.eq rfl (EnvD.eq rfl (EnvD.eq rfl (EnvD.nil))))))) (TkD.cons _ _ _ _ _ Rem.p0 (HLe.refl _) (TkD.cons _ _ _ _ _ Rem.p0 (HLe.refl _) (TkD.cons _ _ _ _ _ Rem.p0 (HLe.st ⟨⟨trivial, DLe.refl _⟩, DLe.refl _⟩) (TkD.nil _)))) ?_
 rintro m21 v h ⟨x14, x15, hF17, rfl, rfl⟩
 obtain ⟨m21', rfl⟩ | rfl : (∃ x, m21 = x + 1) ∨ m21 = 0 := by cases m21 <;> simp
 case inr => cases hF17
 have hb := bind_l hF17; clear hF17
 obtain ⟨qrm21, H, hF17⟩ := hb
 refine GoC.seq ?_
 refine GoC.seq ?_
 refine GoC.region ?_
 refine GoO.pure (ps_move rfl rfl) ?_
 refine GoO.pure (ps_geq rfl rfl rfl) ?_
 refine GoO.nil ?_
 refine GoK.code ?_
 refine GoC.condD rfl (fun h22 => ?_) (fun h22 => ?_)
 replace H := ite_t h22 H
 refine GoC.skip ?_
 refine GoK.code ?_
 refine GoC.seq ?_
 refine GoC.block ?_
 refine GoC.seq ?_
 refine GoC.drawA (.q 0 (.q 1 (.q 2 (.q 3 (.q 4 (.q 5 (.q 6 (.q 7 (.q 8 (.q 9 (.q 10 (.q 11 (.q 12 (.q 13 (.q 14 (.q 15 (.q 16 (.q 17 (.q 18 (.q 19 (.done))))))))))))))))))))) follows (by kernel_rfl) ?_
 refine GoP.qN rfl (ps_move rfl rfl) ?_
 refine GoP.qN rfl (ps_eql rfl rfl rfl) ?_
 refine GoP.qN rfl (ps_move rfl rfl) ?_
 refine GoP.decideD 42 rfl (fun h23 => ?_) (fun h23 => ?_)
 replace H := ite_t h23 H
 refine GoP.qT rfl rfl rfl rfl (ps_move rfl rfl) ?_
 refine GoP.qT rfl rfl rfl rfl (ps_move rfl rfl) ?_
 have c24 := ck_l H; replace H := ck_r H
 refine GoP.qT rfl rfl rfl rfl (ps_indexAddr0 rfl rfl c24 rfl) ?_
 refine GoP.qT rfl rfl rfl rfl (ps_load rfl At.p0 At.p0 (idx_lt c24) rfl rfl) ?_
 refine GoP.qT rfl rfl rfl rfl (ps_gtr rfl rfl rfl) ?_
 refine GoP.qN rfl (ps_pickT rfl rfl rfl) ?_
 refine GoP.qN rfl (ps_move rfl rfl) ?_
 refine GoP.decideD 49 rfl (fun h25 => ?_) (fun h25 => ?_)
 replace H := ite_t h25 H
 refine GoP.qF rfl rfl rfl rfl rfl ?_
 refine GoP.qF rfl rfl rfl rfl rfl ?_
 refine GoP.qF rfl rfl rfl rfl rfl ?_
 refine GoP.qF rfl rfl rfl rfl rfl ?_
 refine GoP.qF rfl rfl rfl rfl rfl ?_
 refine GoP.qF rfl rfl rfl rfl rfl ?_
 refine GoP.qF rfl rfl rfl rfl rfl ?_
 refine GoP.qF rfl rfl rfl rfl rfl ?_
 refine GoP.qF rfl rfl rfl rfl rfl ?_
 refine GoP.qN rfl (ps_pickT rfl rfl rfl) ?_
 refine GoP.done ?_
 refine GoK.code ?_
 refine GoC.condT rfl ?_
 refine GoC.region ?_
 refine GoO.pure (ps_move rfl rfl) ?_
 refine GoO.pure (ps_assign rfl rfl) ?_
 refine GoO.nil ?_
 refine GoK.blk ?_
 refine GoK.code ?_
 refine GoC.region ?_
 refine GoO.pure (ps_move rfl rfl) ?_
 have c26 := ck_l H; replace H := ck_r H
 refine GoO.pure (ps_sub rfl rfl rfl c26) ?_
 refine GoO.pure (ps_assign rfl rfl) ?_
 refine GoO.nil ?_
 obtain rfl := Option.some.inj H
 exact GoK.againJ m21' (by omega) ⟨_, _, hF17, rfl, rfl⟩ (EnvD.eq rfl (EnvD.eq rfl (EnvD.eq rfl (EnvD.eq rfl (EnvD.eq rfl (EnvD.eq rfl (EnvD.nil))))))) (TkD.cons _ _ _ _ _ Rem.p0 (HLe.refl _) (TkD.cons _ _ _ _ _ Rem.p0 (HLe.refl _) (TkD.cons _ _ _ _ _ Rem.p0 (HLe.st ⟨⟨trivial, DLe.refl _⟩, DLe.refl _⟩) (TkD.nil _))))
 replace H := ite_f h25 H
 refine GoP.qT rfl rfl rfl rfl (ps_move rfl rfl) ?_
 refine GoP.qT rfl rfl rfl rfl (ps_move rfl rfl) ?_
 refine GoP.qT rfl rfl rfl rfl (ps_indexAddr0 rfl rfl c24 rfl) ?_
 refine GoP.qT rfl rfl rfl rfl (ps_load rfl At.p0 At.p0 (idx_lt c24) rfl rfl) ?_
 refine GoP.qT rfl rfl rfl rfl (ps_move rfl rfl) ?_
 refine GoP.qT rfl rfl rfl rfl (ps_move rfl rfl) ?_
 have c27 := ck_l H; replace H := ck_r H
 refine GoP.qT rfl rfl rfl rfl (ps_indexAddr0 rfl rfl c27 rfl) ?_
 refine GoP.qT rfl rfl rfl rfl (ps_load rfl At.p1 At.p1 (idx_lt c27) rfl rfl) ?_
 refine GoP.qT rfl rfl rfl rfl (ps_gtr rfl rfl rfl) ?_
 refine GoP.qN rfl (ps_pickF rfl rfl rfl) ?_
 refine GoP.done ?_
 refine GoK.code ?_
 refine GoC.condD rfl (fun h28 => ?_) (fun h28 => ?_)
 replace H := ite_t h28 H
 refine GoC.region ?_
 refine GoO.pure (ps_move rfl rfl) ?_
 refine GoO.pure (ps_assign rfl rfl) ?_
 refine GoO.nil ?_
 refine GoK.blk ?_
 refine GoK.code ?_
 refine GoC.region ?_
 refine GoO.pure (ps_move rfl rfl) ?_
 have c29 := ck_l H; replace H := ck_r H
 refine GoO.pure (ps_sub rfl rfl rfl c29) ?_
 refine GoO.pure (ps_assign rfl rfl) ?_
 refine GoO.nil ?_
 obtain rfl := Option.some.inj H
 exact GoK.againJ m21' (by omega) ⟨_, _, hF17, rfl, rfl⟩ (EnvD.eq rfl (EnvD.eq rfl (EnvD.eq rfl (EnvD.eq rfl (EnvD.eq rfl (EnvD.eq rfl (EnvD.nil))))))) (TkD.cons _ _ _ _ _ Rem.p0 (HLe.refl _) (TkD.cons _ _ _ _ _ Rem.p0 (HLe.refl _) (TkD.cons _ _ _ _ _ Rem.p0 (HLe.st ⟨⟨trivial, DLe.refl _⟩, DLe.refl _⟩) (TkD.nil _))))
 replace H := ite_f h28 H
 refine GoC.skip ?_
 refine GoK.blk ?_
 refine GoK.code ?_
 refine GoC.region ?_
 refine GoO.pure (ps_move rfl rfl) ?_
 have c30 := ck_l H; replace H := ck_r H
 refine GoO.pure (ps_sub rfl rfl rfl c30) ?_
 refine GoO.pure (ps_assign rfl rfl) ?_
 refine GoO.nil ?_
 obtain rfl := Option.some.inj H
 exact GoK.againJ m21' (by omega) ⟨_, _, hF17, rfl, rfl⟩ (EnvD.eq rfl (EnvD.eq rfl (EnvD.eq rfl (EnvD.eq rfl (EnvD.eq rfl (EnvD.eq rfl (EnvD.nil))))))) (TkD.cons _ _ _ _ _ Rem.p0 (HLe.refl _) (TkD.cons _ _ _ _ _ Rem.p0 (HLe.refl _) (TkD.cons _ _ _ _ _ Rem.p0 (HLe.st ⟨⟨trivial, DLe.refl _⟩, DLe.refl _⟩) (TkD.nil _))))
 replace H := ite_f h23 H
 refine GoP.qF rfl rfl rfl rfl rfl ?_
 refine GoP.qF rfl rfl rfl rfl rfl ?_
 refine GoP.qF rfl rfl rfl rfl rfl ?_
 refine GoP.qF rfl rfl rfl rfl rfl ?_
 refine GoP.qF rfl rfl rfl rfl rfl ?_
 refine GoP.qN rfl (ps_pickF rfl rfl rfl) ?_
 refine GoP.qN rfl (ps_move rfl rfl) ?_
 refine GoP.qT rfl rfl rfl rfl (ps_move rfl rfl) ?_
 refine GoP.qT rfl rfl rfl rfl (ps_move rfl rfl) ?_
 have c31 := ck_l H; replace H := ck_r H
 refine GoP.qT rfl rfl rfl rfl (ps_indexAddr0 rfl rfl c31 rfl) ?_
 refine GoP.qT rfl rfl rfl rfl (ps_load rfl At.p0 At.p0 (idx_lt c31) rfl rfl) ?_
 refine GoP.qT rfl rfl rfl rfl (ps_move rfl rfl) ?_
 refine GoP.qT rfl rfl rfl rfl (ps_move rfl rfl) ?_
 have c32 := ck_l H; replace H := ck_r H
 refine GoP.qT rfl rfl rfl rfl (ps_indexAddr0 rfl rfl c32 rfl) ?_
 refine GoP.qT rfl rfl rfl rfl (ps_load rfl At.p1 At.p1 (idx_lt c32) rfl rfl) ?_
 refine GoP.qT rfl rfl rfl rfl (ps_gtr rfl rfl rfl) ?_
 refine GoP.qN rfl (ps_pickF rfl rfl rfl) ?_
 refine GoP.done ?_
 refine GoK.code ?_
 refine GoC.condD rfl (fun h33 => ?_) (fun h33 => ?_)
 replace H := ite_t h33 H
 refine GoC.region ?_
 refine GoO.pure (ps_move rfl rfl) ?_
 refine GoO.pure (ps_assign rfl rfl) ?_
 refine GoO.nil ?_
 refine GoK.blk ?_
 refine GoK.code ?_
 refine GoC.region ?_
 refine GoO.pure (ps_move rfl rfl) ?_
 have c34 := ck_l H; replace H := ck_r H
 refine GoO.pure (ps_sub rfl rfl rfl c34) ?_
 refine GoO.pure (ps_assign rfl rfl) ?_
 refine GoO.nil ?_
 obtain rfl := Option.some.inj H
 exact GoK.againJ m21' (by omega) ⟨_, _, hF17, rfl, rfl⟩ (EnvD.eq rfl (EnvD.eq rfl (EnvD.eq rfl (EnvD.eq rfl (EnvD.eq rfl (EnvD.eq rfl (EnvD.nil))))))) (TkD.cons _ _ _ _ _ Rem.p0 (HLe.refl _) (TkD.cons _ _ _ _ _ Rem.p0 (HLe.refl _) (TkD.cons _ _ _ _ _ Rem.p0 (HLe.st ⟨⟨trivial, DLe.refl _⟩, DLe.refl _⟩) (TkD.nil _))))
 replace H := ite_f h33 H
 refine GoC.skip ?_
 refine GoK.blk ?_
 refine GoK.code ?_
 refine GoC.region ?_
 refine GoO.pure (ps_move rfl rfl) ?_
 have c35 := ck_l H; replace H := ck_r H
 refine GoO.pure (ps_sub rfl rfl rfl c35) ?_
 refine GoO.pure (ps_assign rfl rfl) ?_
 refine GoO.nil ?_
 obtain rfl := Option.some.inj H
 exact GoK.againJ m21' (by omega) ⟨_, _, hF17, rfl, rfl⟩ (EnvD.eq rfl (EnvD.eq rfl (EnvD.eq rfl (EnvD.eq rfl (EnvD.eq rfl (EnvD.eq rfl (EnvD.nil))))))) (TkD.cons _ _ _ _ _ Rem.p0 (HLe.refl _) (TkD.cons _ _ _ _ _ Rem.p0 (HLe.refl _) (TkD.cons _ _ _ _ _ Rem.p0 (HLe.st ⟨⟨trivial, DLe.refl _⟩, DLe.refl _⟩) (TkD.nil _))))
 replace H := ite_f h22 H
 refine GoC.exit rfl ?_
 obtain rfl := Option.some.inj H
 obtain rfl := Option.some.inj hF17
 exact GoK.meet ⟨_, _, rfl, rfl, rfl⟩ (EnvD.eq rfl (EnvD.eq rfl (EnvD.nil))) (TkD.cons _ _ _ _ _ Rem.p0 (HLe.refl _) (TkD.cons _ _ _ _ _ Rem.p0 (HLe.refl _) (TkD.cons _ _ _ _ _ Rem.p0 (HLe.st ⟨⟨trivial, DLe.refl _⟩, DLe.refl _⟩) (TkD.nil _))))
 rintro v h ⟨x19, x20, rfl, rfl, rfl⟩
 have H := HK16; clear HK16
 refine GoK.code ?_
 refine GoC.seq ?_
 refine GoC.region ?_
 refine GoO.pure (ps_fieldAddr rfl rfl) ?_
 refine GoO.pure (ps_load rfl At.p2 At.p2 Nat.zero_lt_one rfl rfl) ?_
 refine GoO.pure (ps_len rfl (by constructor) rfl) ?_
 refine GoO.lenLe (n := g.as.length) (x := .tmp 62) rfl (by constructor) sl_lenLe (fun ml37 => ?_)
 have c39 := ck_l H; replace H := ck_r H
 refine GoO.effB (ef_makeZ rfl rfl c39 rfl rfl rfl) (fun β38 => ?_)
 refine GoO.le (Le.reH At.p0 (HLe.zeros (α := Bool) ⟨trivial, DLe.refl _⟩)) ?_
 refine GoO.pure (ps_assign rfl rfl) ?_
 refine GoO.nil ?_
 refine GoK.code ?_
 refine GoC.seq ?_
 refine GoC.region ?_
 refine GoO.pure (ps_assign rfl rfl) ?_
 refine GoO.pure (ps_assign rfl rfl) ?_
 refine GoO.nil ?_
 refine GoK.code ?_
 refine GoC.seq ?_
 refine GoC.region ?_
 refine GoO.pure (ps_move rfl rfl) ?_
 refine GoO.effB (ef_alloc rfl) (fun β40 => ?_)
 refine GoO.eff1 (ef_store rfl rfl rfl At.p0 upd_st1 Nat.zero_lt_one rfl) ?_
 refine GoO.nil ?_
 refine GoK.code ?_
 refine GoC.seq ?_
 have hb := bind_l H; clear H
 obtain ⟨q49, hl90, HK47⟩ := hb
 refine GoC.blockJ [] [.one β8 3 1 (row r7), .one β10 3 1 (row r9), .one β1 33 2 (st1 (nth [.v (.int .i64 g.n), slD g.as]))] (fun v h => ∃ (l50 : (List Bool)) (l51 : (List Int)) (l52 : (List Int)) (x53 : Int) (β42 : BK) (β44 : BK), q49 = .go (l50, l51, l52, x53) ∧ v = [(12, .own β42 1 0 l51.length)] ∧ h = [.one β38 4 1 (row l50), .one β42 3 1 (row l51), .one β44 3 1 (row l52), .one β40 3 1 (st1 (nth [.v (.int .i64 x53)]))]) ?_ ?_
 refine GoC.loopJ [(1, _)] [.one β8 3 1 (row r7), .one β10 3 1 (row r9), .one β1 33 2 (st1 (nth [.v (.int .i64 g.n), slD g.as]))] (fun m v h => ∃ (l41 : (List Bool)) (l43 : (List Int)) (l45 : (List Int)) (x46 : Int) (β42 : BK) (β44 : BK), loopC (euler_Trail_B2 g) m (l41, l43, l45, x46) = some q49 ∧ v = [(11, .own β38 1 0 l41.length), (12, .own β42 1 0 l43.length), (13, .own β44 1 0 l45.length), (14, .ptr β40 1 0 0)] ∧ h = [.one β38 4 1 (row l41), .one β42 3 1 (row l43), .one β44 3 1 (row l45), .one β40 3 1 (st1 (nth [.v (.int .i64 x46)]))]) 1000000 ⟨_, _, _, _, ⟨0, 0, 0⟩, ⟨0, 0, 0⟩, hl90, rfl, rfl⟩ (EnvD.cons rfl (DLe.len (by first | rfl | omega | (simp only [row_len, List.length_replicate] <;> first | rfl | omega))) (EnvD.cons rfl (DLe.nilOwn) (EnvD.cons rfl (DLe.nilOwn) (EnvD.eq rfl (EnvD.eq rfl (EnvD.nil)))))) (TkD.cons _ _ _ _ _ Rem.p1 (HLe.refl _) (TkD.no _ _ _ _ _ rfl (TkD.no _ _ _ _ _ rfl (TkD.cons _ _ _ _ _ Rem.p0 (HLe.st ⟨trivial, DLe.refl _⟩) (TkD.cons _ _ _ _ _ Rem.p0 (HLe.refl _) (TkD.cons _ _ _ _ _ Rem.p0 (HLe.refl _) (TkD.cons _ _ _ _ _ Rem.p0 (HLe.st ⟨⟨trivial, DLe.refl _⟩, DLe.refl _⟩) (TkD.nil _)))))))) ?_
 rintro m54 v h ⟨l41, l43, l45, x46, β42, β44, hF48, rfl, rfl⟩
 obtain ⟨m54', rfl⟩ | rfl : (∃ x, m54 = x + 1) ∨ m54 = 0 := by cases m54 <;> simp
 case inr => cases hF48
 have hb := bind_l hF48; clear hF48
 obtain ⟨qrm54, H, hF48⟩ := hb
 refine GoC.block ?_
 refine GoC.seq ?_
 refine GoC.region ?_
 refine GoO.pure (ps_fieldAddr rfl rfl) ?_
 refine GoO.pure (ps_load rfl At.p6 At.p6 Nat.zero_lt_one rfl rfl) ?_
 refine GoO.pure (ps_makeFunc rfl rfl rfl) ?_
 have hb := bind_l H; clear H
 obtain ⟨r55, e56, H⟩ := hb
 refine GoO.effC (ef_call rfl (Take.nil _) (Take.cons _ _ _ _ _ Rem.p3 (Take.nil _)) (slices_IndexFunc_Arc_euler_Trail_c1_spec g.as x46 e56) (LendL.cons (Lend.refl _ _) (LendL.cons (Lend.fn (LendL.cons (Lend.box (ds := [.v (.int .i64 x46)]) At.p0 rfl (by decide) ⟨trivial, rfl⟩ (LendL.cons (Lend.refl _ _) (LendL.nil)) ⟨trivial, rfl⟩ rfl) (LendL.nil))) (LendL.nil))) rfl (slices_IndexFunc_Arc_euler_Trail_c1_I (r55))) (fun rr HH hp => ?_)
 obtain ⟨rfl, rfl⟩ := hp
 refine GoO.pure (ps_assign rfl rfl) ?_
 refine GoO.nil ?_
 refine GoK.code ?_
 refine GoC.seq ?_
 have hb := bind_l H; clear H
 obtain ⟨q60, hl72, HK58⟩ := hb
 refine GoC.blockJ [(1, .ptr β1 2 0 0), (11, .own β38 1 0 l41.length), (12, .own β42 1 0 l43.length), (13, .own β44 1 0 l45.length), (14, .ptr β40 1 0 0)] [.one β38 4 1 (row l41), .one β42 3 1 (row l43), .one β44 3 1 (row l45), .one β40 3 1 (st1 (nth [.v (.int .i64 x46)])), .one β8 3 1 (row r7), .one β10 3 1 (row r9), .one β1 33 2 (st1 (nth [.v (.int .i64 g.n), slD g.as]))] (fun v h => ∃ (x61 : Int), q60 = .go x61 ∧ v = [(15, .v (.int .i64 x61))] ∧ h = []) ?_ ?_
 refine GoC.loopJ [(1, _), (11, _), (12, _), (13, _), (14, _)] [.one β38 4 1 (row l41), .one β42 3 1 (row l43), .one β44 3 1 (row l45), .one β40 3 1 (st1 (nth [.v (.int .i64 x46)])), .one β8 3 1 (row r7), .one β10 3 1 (row r9), .one β1 33 2 (st1 (nth [.v (.int .i64 g.n), slD g.as]))] (fun m v h => ∃ (x57 : Int), loopC (euler_Trail_B3 g l41 x46) m x57 = some q60 ∧ v = [(15, .v (.int .i64 x57))] ∧ h = []) 1000000 ⟨_, hl72, rfl, rfl⟩ (EnvD.eq rfl (EnvD.eq rfl (EnvD.eq rfl (EnvD.eq rfl (EnvD.eq rfl (EnvD.eq rfl (EnvD.nil))))))) (TkD.cons _ _ _ _ _ Rem.p0 (HLe.refl _) (TkD.cons _ _ _ _ _ Rem.p0 (HLe.refl _) (TkD.cons _ _ _ _ _ Rem.p0 (HLe.refl _) (TkD.cons _ _ _ _ _ Rem.p0 (HLe.st ⟨trivial, DLe.refl _⟩) (TkD.cons _ _ _ _ _ Rem.p0 (HLe.refl _) (TkD.cons _ _ _ _ _ Rem.p0 (HLe.refl _) (TkD.cons _ _ _ _ _ Rem.p0 (HLe.st ⟨⟨trivial, DLe.refl _⟩, DLe.refl _⟩) (TkD.nil _)))))))) ?_
 rintro m62 v h ⟨x57, hF59, rfl, rfl⟩
 obtain ⟨m62', rfl⟩ | rfl : (∃ x, m62 = x + 1) ∨ m62 = 0 := by cases m62 <;> simp
 case inr => cases hF59
 have hb := bind_l hF59; clear hF59
 obtain ⟨qrm62, H, hF59⟩ := hb
 have hb := bind_l H; clear H
 obtain ⟨q64, H, HK63⟩ := hb
 refine GoC.seqJ [(1, .ptr β1 2 0 0), (11, .own β38 1 0 l41.length), (12, .own β42 1 0 l43.length), (13, .own β44 1 0 l45.length), (14, .ptr β40 1 0 0), (15, .v (.int .i64 x57))] [.one β38 4 1 (row l41), .one β42 3 1 (row l43), .one β44 3 1 (row l45), .one β40 3 1 (st1 (nth [.v (.int .i64 x46)])), .one β8 3 1 (row r7), .one β10 3 1 (row r9), .one β1 33 2 (st1 (nth [.v (.int .i64 g.n), slD g.as]))] (fun v h => q64 = .go () ∧ v = [] ∧ h = []) ?_ ?_
 refine GoC.seq ?_
 refine GoC.drawA (.q 0 (.q 1 (.q 2 (.q 3 (.q 4 (.q 5 (.q 6 (.q 7 (.q 8 (.q 9 (.q 10 (.q 11 (.q 12 (.q 13 (.q 14 (.q 15 (.q 16 (.q 17 (.done))))))))))))))))))) follows (by kernel_rfl) ?_
 refine GoP.qN rfl (ps_move rfl rfl) ?_
 refine GoP.qN rfl (ps_geq rfl rfl rfl) ?_
 refine GoP.qN rfl (ps_move rfl rfl) ?_
 refine GoP.decideD 72 rfl (fun h65 => ?_) (fun h65 => ?_)
 replace H := ite_t h65 H
 refine GoP.qT rfl rfl rfl rfl (ps_move rfl rfl) ?_
 refine GoP.qT rfl rfl rfl rfl (ps_move rfl rfl) ?_
 have c66 := ck_l H; replace H := ck_r H
 refine GoP.qT rfl rfl rfl rfl (ps_indexAddr0 rfl rfl c66 rfl) ?_
 refine GoP.qT rfl rfl rfl rfl (ps_load rfl At.p0 At.p0 (idx_lt c66) rfl rfl) ?_
 refine GoP.qT rfl rfl rfl rfl (ps_move rfl rfl) ?_
 refine GoP.decide 77 rfl (fun h67 => ?_) (fun h67 => ?_)
 replace H := itb_t h67 H
 refine GoP.qF rfl rfl rfl rfl rfl ?_
 refine GoP.qF rfl rfl rfl rfl rfl ?_
 refine GoP.qF rfl rfl rfl rfl rfl ?_
 refine GoP.qF rfl rfl rfl rfl rfl ?_
 refine GoP.qF rfl rfl rfl rfl rfl ?_
 refine GoP.qF rfl rfl rfl rfl rfl ?_
 refine GoP.qF rfl rfl rfl rfl rfl ?_
 refine GoP.qF rfl rfl rfl rfl rfl ?_
 refine GoP.qT rfl rfl rfl rfl (ps_pickT rfl rfl rfl) ?_
 refine GoP.qN rfl (ps_pickT rfl rfl rfl) ?_
 refine GoP.done ?_
 refine GoK.code ?_
 refine GoC.condT rfl ?_
 refine GoC.skip ?_
 obtain rfl := Option.some.inj H
 exact GoK.meet ⟨rfl, rfl, rfl⟩ (EnvD.eq rfl (EnvD.eq rfl (EnvD.eq rfl (EnvD.eq rfl (EnvD.eq rfl (EnvD.eq rfl (EnvD.nil))))))) (TkD.cons _ _ _ _ _ Rem.p0 (HLe.refl _) (TkD.cons _ _ _ _ _ Rem.p0 (HLe.refl _) (TkD.cons _ _ _ _ _ Rem.p0 (HLe.refl _) (TkD.cons _ _ _ _ _ Rem.p0 (HLe.st ⟨trivial, DLe.refl _⟩) (TkD.cons _ _ _ _ _ Rem.p0 (HLe.refl _) (TkD.cons _ _ _ _ _ Rem.p0 (HLe.refl _) (TkD.cons _ _ _ _ _ Rem.p0 (HLe.st ⟨⟨trivial, DLe.refl _⟩, DLe.refl _⟩) (TkD.nil _))))))))
 replace H := itb_f h67 H
 refine GoP.qT rfl rfl rfl rfl (ps_fieldAddr rfl rfl) ?_
 refine GoP.qT rfl rfl rfl rfl (ps_load rfl At.p6 At.p6 Nat.zero_lt_one rfl rfl) ?_
 refine GoP.qT rfl rfl rfl rfl (ps_move rfl rfl) ?_
 have c68 := ck_l H; replace H := ck_r H
 refine GoP.qT rfl rfl rfl rfl (ps_indexAddrR rfl rfl c68 rfl) ?_
 refine GoP.qT rfl rfl rfl rfl (ps_fieldAddrR rfl rfl) ?_
 refine GoP.qT rfl rfl rfl rfl (ps_loadR rfl (idx_lt c68) rfl rfl) ?_
 refine GoP.qT rfl rfl rfl rfl (ps_load rfl At.p3 At.p3 Nat.zero_lt_one rfl rfl) ?_
 refine GoP.qT rfl rfl rfl rfl (ps_neq rfl rfl rfl) ?_
 refine GoP.qT rfl rfl rfl rfl (ps_pickF rfl rfl rfl) ?_
 refine GoP.qN rfl (ps_pickT rfl rfl rfl) ?_
 refine GoP.done ?_
 refine GoK.code ?_
 refine GoC.condD rfl (fun h69 => ?_) (fun h69 => ?_)
 replace H := ite_t h69 H
 refine GoC.skip ?_
 obtain rfl := Option.some.inj H
 exact GoK.meet ⟨rfl, rfl, rfl⟩ (EnvD.eq rfl (EnvD.eq rfl (EnvD.eq rfl (EnvD.eq rfl (EnvD.eq rfl (EnvD.eq rfl (EnvD.nil))))))) (TkD.cons _ _ _ _ _ Rem.p0 (HLe.refl _) (TkD.cons _ _ _ _ _ Rem.p0 (HLe.refl _) (TkD.cons _ _ _ _ _ Rem.p0 (HLe.refl _) (TkD.cons _ _ _ _ _ Rem.p0 (HLe.st ⟨trivial, DLe.refl _⟩) (TkD.cons _ _ _ _ _ Rem.p0 (HLe.refl _) (TkD.cons _ _ _ _ _ Rem.p0 (HLe.refl _) (TkD.cons _ _ _ _ _ Rem.p0 (HLe.st ⟨⟨trivial, DLe.refl _⟩, DLe.refl _⟩) (TkD.nil _))))))))
 replace H := ite_f h69 H
 refine GoC.exit rfl ?_
 obtain rfl := Option.some.inj H
 obtain rfl := Option.some.inj HK63
 obtain rfl := Option.some.inj hF59
 exact GoK.meet ⟨_, rfl, rfl, rfl⟩ (EnvD.eq rfl (EnvD.eq rfl (EnvD.eq rfl (EnvD.eq rfl (EnvD.eq rfl (EnvD.eq rfl (EnvD.nil))))))) (TkD.cons _ _ _ _ _ Rem.p0 (HLe.refl _) (TkD.cons _ _ _ _ _ Rem.p0 (HLe.refl _) (TkD.cons _ _ _ _ _ Rem.p0 (HLe.refl _) (TkD.cons _ _ _ _ _ Rem.p0 (HLe.st ⟨trivial, DLe.refl _⟩) (TkD.cons _ _ _ _ _ Rem.p0 (HLe.refl _) (TkD.cons _ _ _ _ _ Rem.p0 (HLe.refl _) (TkD.cons _ _ _ _ _ Rem.p0 (HLe.st ⟨⟨trivial, DLe.refl _⟩, DLe.refl _⟩) (TkD.nil _))))))))
 replace H := ite_f h65 H
 refine GoP.qF rfl rfl rfl rfl rfl ?_
 refine GoP.qF rfl rfl rfl rfl rfl ?_
 refine GoP.qF rfl rfl rfl rfl rfl ?_
 refine GoP.qF rfl rfl rfl rfl rfl ?_
 refine GoP.qF rfl rfl rfl rfl rfl ?_
 refine GoP.qU rfl rfl rfl rfl rfl ?_
 refine GoP.qU rfl rfl rfl rfl rfl ?_
 refine GoP.qU rfl rfl rfl rfl rfl ?_
 refine GoP.qU rfl rfl rfl rfl rfl ?_
 refine GoP.qU rfl rfl rfl rfl rfl ?_
 refine GoP.qU rfl rfl rfl rfl rfl ?_
 refine GoP.qU rfl rfl rfl rfl rfl ?_
 refine GoP.qU rfl rfl rfl rfl rfl ?_
 refine GoP.qF rfl rfl rfl rfl rfl ?_
 refine GoP.qN rfl (ps_pickF rfl rfl rfl) ?_
 refine GoP.done ?_
 refine GoK.code ?_
 refine GoC.condF rfl ?_
 refine GoC.exit rfl ?_
 obtain rfl := Option.some.inj H
 obtain rfl := Option.some.inj HK63
 obtain rfl := Option.some.inj hF59
 exact GoK.meet ⟨_, rfl, rfl, rfl⟩ (EnvD.eq rfl (EnvD.eq rfl (EnvD.eq rfl (EnvD.eq rfl (EnvD.eq rfl (EnvD.eq rfl (EnvD.nil))))))) (TkD.cons _ _ _ _ _ Rem.p0 (HLe.refl _) (TkD.cons _ _ _ _ _ Rem.p0 (HLe.refl _) (TkD.cons _ _ _ _ _ Rem.p0 (HLe.refl _) (TkD.cons _ _ _ _ _ Rem.p0 (HLe.st ⟨trivial, DLe.refl _⟩) (TkD.cons _ _ _ _ _ Rem.p0 (HLe.refl _) (TkD.cons _ _ _ _ _ Rem.p0 (HLe.refl _) (TkD.cons _ _ _ _ _ Rem.p0 (HLe.st ⟨⟨trivial, DLe.refl _⟩, DLe.refl _⟩) (TkD.nil _))))))))
 rintro v h ⟨rfl, rfl, rfl⟩
 have H := HK63; clear HK63
 refine GoC.block ?_
 refine GoC.seq ?_
 refine GoC.region ?_
 refine GoO.pure (ps_move rfl rfl) ?_
 have c70 := ck_l H; replace H := ck_r H
 refine GoO.pure (ps_add rfl rfl rfl c70) ?_
 refine GoO.pure (ps_assign rfl rfl) ?_
 refine GoO.nil ?_
 refine GoK.code ?_
 refine GoC.seq ?_
 refine GoC.region ?_
 refine GoO.pure (ps_move rfl rfl) ?_
 refine GoO.pure (ps_fieldAddr rfl rfl) ?_
 refine GoO.pure (ps_load rfl At.p6 At.p6 Nat.zero_lt_one rfl rfl) ?_
 refine GoO.pure (ps_len rfl (by constructor) rfl) ?_
 refine GoO.pure (ps_eql rfl rfl rfl) ?_
 refine GoO.nil ?_
 refine GoK.code ?_
 refine GoC.condD rfl (fun h71 => ?_) (fun h71 => ?_)
 replace H := ite_t h71 H
 refine GoC.region ?_
 refine GoO.pure (ps_assign rfl rfl) ?_
 refine GoO.nil ?_
 refine GoK.blk ?_
 obtain rfl := Option.some.inj H
 exact GoK.againJ m62' (by omega) ⟨_, hF59, rfl, rfl⟩ (EnvD.eq rfl (EnvD.eq rfl (EnvD.eq rfl (EnvD.eq rfl (EnvD.eq rfl (EnvD.eq rfl (EnvD.nil))))))) (TkD.cons _ _ _ _ _ Rem.p0 (HLe.refl _) (TkD.cons _ _ _ _ _ Rem.p0 (HLe.refl _) (TkD.cons _ _ _ _ _ Rem.p0 (HLe.refl _) (TkD.cons _ _ _ _ _ Rem.p0 (HLe.st ⟨trivial, DLe.refl _⟩) (TkD.cons _ _ _ _ _ Rem.p0 (HLe.refl _) (TkD.cons _ _ _ _ _ Rem.p0 (HLe.refl _) (TkD.cons _ _ _ _ _ Rem.p0 (HLe.st ⟨⟨trivial, DLe.refl _⟩, DLe.refl _⟩) (TkD.nil _))))))))
 replace H := ite_f h71 H
 refine GoC.skip ?_
 refine GoK.blk ?_
 obtain rfl := Option.some.inj H
 exact GoK.againJ m62' (by omega) ⟨_, hF59, rfl, rfl⟩ (EnvD.eq rfl (EnvD.eq rfl (EnvD.eq rfl (EnvD.eq rfl (EnvD.eq rfl (EnvD.eq rfl (EnvD.nil))))))) (TkD.cons _ _ _ _ _ Rem.p0 (HLe.refl _) (TkD.cons _ _ _ _ _ Rem.p0 (HLe.refl _) (TkD.cons _ _ _ _ _ Rem.p0 (HLe.refl _) (TkD.cons _ _ _ _ _ Rem.p0 (HLe.st ⟨trivial, DLe.refl _⟩) (TkD.cons _ _ _ _ _ Rem.p0 (HLe.refl _) (TkD.cons _ _ _ _ _ Rem.p0 (HLe.refl _) (TkD.cons _ _ _ _ _ Rem.p0 (HLe.st ⟨⟨trivial, DLe.refl _⟩, DLe.refl _⟩) (TkD.nil _))))))))
 rintro v h ⟨x61, rfl, rfl, rfl⟩
 have H := HK58; clear HK58
 refine GoK.code ?_
 refine GoC.seq ?_
 refine GoC.seq ?_
 refine GoC.region ?_
 refine GoO.pure (ps_move rfl rfl) ?_
 refine GoO.pure (ps_geq rfl rfl rfl) ?_
 refine GoO.nil ?_
 refine GoK.code ?_
 refine GoC.condD rfl (fun h73 => ?_) (fun h73 => ?_)
 replace H := ite_t h73 H
 refine GoC.seq ?_
 refine GoC.region ?_
 refine GoO.pure (ps_move rfl rfl) ?_
 refine GoO.pure (ps_move rfl rfl) ?_
 have c74 := ck_l H; replace H := ck_r H
 refine GoO.pure (ps_indexAddr0 rfl rfl c74 rfl) ?_
 refine GoO.eff1 (ef_store rfl rfl rfl At.p0 (upd_row1 (v := true) rfl) (idx_lt c74) rfl) ?_
 refine GoO.nil ?_
 refine GoK.code ?_
 refine GoC.seq ?_
 refine GoC.region ?_
 refine GoO.pure (ps_move rfl rfl) ?_
 refine GoO.pure (ps_move rfl rfl) ?_
 refine GoO.effB (ef_buildSlice (row ([x61] : List Int)) rfl (Parts.cons _ _ _ _ _ _ _ _ ⟨rfl, rfl⟩ (Part.one _ rfl rfl) rfl rfl (Parts.nil _)) rfl rfl rfl rfl) (fun β75 => ?_)
 have c77 := ck_l H; replace H := ck_r H
 refine GoO.effB (ef_append rfl rfl Rem.p3 (Src.own At.p0 (by first | omega | (simp only [subl_length, List.length_set, List.length_append, List.length_cons, List.length_nil, List.length_replicate, row_len]; omega) | (simp only [subl_length, List.length_set, List.length_append, List.length_cons, List.length_nil, List.length_replicate, row_len]; done))) (cat_row (α := Int) (by first | rfl | omega | (simp only [subl_length, List.length_set, List.length_append, List.length_cons, List.length_nil, List.length_replicate, row_len] <;> first | rfl | omega)) (by first | rfl | omega | (simp only [subl_length, List.length_set, List.length_append, List.length_cons, List.length_nil, List.length_replicate, row_len] <;> first | rfl | omega)) (fun _ _ _ _ => rfl)) (by first | omega | (simp only [subl_length, List.length_set, List.length_append, List.length_cons, List.length_nil, List.length_replicate, row_len]; omega) | (simp only [subl_length, List.length_set, List.length_append, List.length_cons, List.length_nil, List.length_replicate, row_len]; done)) (app_le c77 rfl) rfl rfl rfl) (fun β76 => ?_)
 refine GoO.pure (ps_assign rfl rfl) ?_
 refine GoO.nil ?_
 refine GoK.code ?_
 refine GoC.seq ?_
 refine GoC.region ?_
 refine GoO.pure (ps_fieldAddr rfl rfl) ?_
 refine GoO.pure (ps_load rfl At.p7 At.p7 Nat.zero_lt_one rfl rfl) ?_
 refine GoO.pure (ps_move rfl rfl) ?_
 have c78 := ck_l H; replace H := ck_r H
 refine GoO.pure (ps_indexAddrR rfl rfl c78 rfl) ?_
 refine GoO.pure (ps_fieldAddrR rfl rfl) ?_
 refine GoO.pure (ps_loadR rfl (idx_lt c78) rfl rfl) ?_
 refine GoO.eff1 (ef_store rfl rfl rfl At.p4 upd_st1 Nat.zero_lt_one rfl) ?_
 refine GoO.nil ?_
 refine GoK.code ?_
 refine GoC.exit rfl ?_
 obtain rfl := Option.some.inj H
 exact GoK.againJ m54' (by omega) ⟨_, _, _, _, β42, β76, hF48, rfl, rfl⟩ (EnvD.cons rfl (DLe.len (by first | rfl | omega | (simp only [row_len, List.length_set] <;> first | rfl | omega))) (EnvD.eq rfl (EnvD.cons rfl (DLe.len (by first | rfl | omega | (simp only [row_len, List.length_append, List.length_cons, List.length_nil] <;> first | rfl | omega))) (EnvD.eq rfl (EnvD.eq rfl (EnvD.nil)))))) (TkD.cons _ _ _ _ _ Rem.p2 (HLe.refl _) (TkD.cons _ _ _ _ _ Rem.p2 (HLe.refl _) (TkD.cons _ _ _ _ _ Rem.p0 (HLe.refl _) (TkD.cons _ _ _ _ _ Rem.p1 (HLe.st ⟨trivial, DLe.refl _⟩) (TkD.cons _ _ _ _ _ Rem.p1 (HLe.refl _) (TkD.cons _ _ _ _ _ Rem.p1 (HLe.refl _) (TkD.cons _ _ _ _ _ Rem.p1 (HLe.st ⟨⟨trivial, DLe.refl _⟩, DLe.refl _⟩) (TkD.nil _))))))))
 replace H := ite_f h73 H
 refine GoC.skip ?_
 refine GoK.code ?_
 refine GoC.seq ?_
 refine GoC.seq ?_
 refine GoC.region ?_
 refine GoO.pure (ps_move rfl rfl) ?_
 refine GoO.pure (ps_len rfl (by constructor) rfl) ?_
 refine GoO.lenLe (n := l45.length) (x := .tmp 110) rfl (by constructor) own_lenLe (fun ml79 => ?_)
 refine GoO.pure (ps_eql rfl rfl rfl) ?_
 refine GoO.nil ?_
 refine GoK.code ?_
 refine GoC.condD rfl (fun h80 => ?_) (fun h80 => ?_)
 replace H := ite_t h80 H
 refine GoC.exit rfl ?_
 obtain rfl := Option.some.inj H
 obtain rfl := Option.some.inj hF48
 exact GoK.meet ⟨_, _, _, _, β42, β44, rfl, rfl, rfl⟩ (EnvD.cons rfl (DLe.len (by first | rfl | omega | (simp only [row_len] <;> first | rfl | omega))) (EnvD.nil)) (TkD.cons _ _ _ _ _ Rem.p0 (HLe.refl _) (TkD.cons _ _ _ _ _ Rem.p0 (HLe.refl _) (TkD.cons _ _ _ _ _ Rem.p0 (HLe.refl _) (TkD.cons _ _ _ _ _ Rem.p0 (HLe.st ⟨trivial, DLe.refl _⟩) (TkD.cons _ _ _ _ _ Rem.p0 (HLe.refl _) (TkD.cons _ _ _ _ _ Rem.p0 (HLe.refl _) (TkD.cons _ _ _ _ _ Rem.p0 (HLe.st ⟨⟨trivial, DLe.refl _⟩, DLe.refl _⟩) (TkD.nil _))))))))
 replace H := ite_f h80 H
 refine GoC.skip ?_
 refine GoK.code ?_
 refine GoC.seq ?_
 refine GoC.region ?_
 refine GoO.pure (ps_move rfl rfl) ?_
 refine GoO.pure (ps_move rfl rfl) ?_
 refine GoO.pure (ps_len rfl (by constructor) rfl) ?_
 have c81 := ck_l H; replace H := ck_r H
 refine GoO.pure (ps_sub rfl rfl rfl c81) ?_
 have c82 := ck_l H; replace H := ck_r H
 refine GoO.pure (ps_indexAddr0 rfl rfl c82 rfl) ?_
 refine GoO.pure (ps_load rfl At.p2 At.p2 (idx_lt c82) rfl rfl) ?_
 refine GoO.pure (ps_assign rfl rfl) ?_
 refine GoO.nil ?_
 refine GoK.code ?_
 refine GoC.seq ?_
 refine GoC.region ?_
 refine GoO.pure (ps_move rfl rfl) ?_
 refine GoO.pure (ps_move rfl rfl) ?_
 refine GoO.pure (ps_len rfl (by constructor) rfl) ?_
 refine GoO.pure (ps_sub rfl rfl rfl c81) ?_
 have c83 := ck_l H; replace H := ck_r H
 have c84 := ck_l H; replace H := ck_r H
 refine GoO.pure (ps_slice rfl (Bd.no _) (Bd.int _ _ _ _ rfl c83) (Nat.zero_le _) c84 rfl) ?_
 refine GoO.le (Le.shift At.p2 (by have := c84; first | omega | (simp only [subl_length, List.length_set, List.length_append, List.length_cons, List.length_nil, List.length_replicate, row_len]; omega))) ?_
 refine GoO.le (Le.reH At.p2 (HLe.part (xs := l45) (r := 0 + 0) (len := (((l45.length : Nat) : Int) - 1).toNat) (by have := c84; first | omega | (simp only [subl_length, List.length_set, List.length_append, List.length_cons, List.length_nil, List.length_replicate, row_len]; omega)))) ?_
 generalize (⟨β44.b, β44.o + (0 + 0) * 1, β44.s - (0 + 0)⟩ : BK) = β85
 refine GoO.pure (ps_assign rfl rfl) ?_
 refine GoO.nil ?_
 refine GoK.code ?_
 refine GoC.seq ?_
 refine GoC.region ?_
 refine GoO.pure (ps_move rfl rfl) ?_
 refine GoO.pure (ps_move rfl rfl) ?_
 refine GoO.effB (ef_buildSlice (row ([(l45.getD ((((l45.length : Nat) : Int) - 1).toNat) (0 : Int))] : List Int)) rfl (Parts.cons _ _ _ _ _ _ _ _ ⟨rfl, rfl⟩ (Part.one _ rfl rfl) rfl rfl (Parts.nil _)) rfl rfl rfl rfl) (fun β86 => ?_)
 have c88 := ck_l H; replace H := ck_r H
 refine GoO.effB (ef_append rfl rfl Rem.p2 (Src.own At.p0 (by first | omega | (simp only [subl_length, List.length_set, List.length_append, List.length_cons, List.length_nil, List.length_replicate, row_len]; omega) | (simp only [subl_length, List.length_set, List.length_append, List.length_cons, List.length_nil, List.length_replicate, row_len]; done))) (cat_row (α := Int) (by first | rfl | omega | (simp only [subl_length, List.length_set, List.length_append, List.length_cons, List.length_nil, List.length_replicate, row_len] <;> first | rfl | omega)) (by first | rfl | omega | (simp only [subl_length, List.length_set, List.length_append, List.length_cons, List.length_nil, List.length_replicate, row_len] <;> first | rfl | omega)) (fun _ _ _ _ => rfl)) (by first | omega | (simp only [subl_length, List.length_set, List.length_append, List.length_cons, List.length_nil, List.length_replicate, row_len]; omega) | (simp only [subl_length, List.length_set, List.length_append, List.length_cons, List.length_nil, List.length_replicate, row_len]; done)) (app_le c88 rfl) rfl rfl rfl) (fun β87 => ?_)
 refine GoO.pure (ps_assign rfl rfl) ?_
 refine GoO.nil ?_
 refine GoK.code ?_
 refine GoC.region ?_
 refine GoO.pure (ps_fieldAddr rfl rfl) ?_
 refine GoO.pure (ps_load rfl At.p7 At.p7 Nat.zero_lt_one rfl rfl) ?_
 refine GoO.pure (ps_move rfl rfl) ?_
 have c89 := ck_l H; replace H := ck_r H
 refine GoO.pure (ps_indexAddrR rfl rfl c89 rfl) ?_
 refine GoO.pure (ps_fieldAddrR rfl rfl) ?_
 refine GoO.pure (ps_loadR rfl (idx_lt c89) rfl rfl) ?_
 refine GoO.eff1 (ef_store rfl rfl rfl At.p4 upd_st1 Nat.zero_lt_one rfl) ?_
 refine GoO.nil ?_
 refine GoK.blk ?_
 obtain rfl := Option.some.inj H
 exact GoK.againJ m54' (by omega) ⟨_, _, _, _, β87, β85, hF48, rfl, rfl⟩ (EnvD.eq rfl (EnvD.cons rfl (DLe.len (by first | rfl | omega | (simp only [row_len, List.length_append, List.length_cons, List.length_nil] <;> first | rfl | omega))) (EnvD.cons rfl (DLe.len (by first | rfl | omega | (simp only [row_len, subl_length] <;> first | rfl | omega))) (EnvD.eq rfl (EnvD.eq rfl (EnvD.nil)))))) (TkD.cons _ _ _ _ _ Rem.p2 (HLe.refl _) (TkD.cons _ _ _ _ _ Rem.p0 (HLe.refl _) (TkD.cons _ _ _ _ _ Rem.p1 (HLe.refl _) (TkD.cons _ _ _ _ _ Rem.p1 (HLe.st ⟨trivial, DLe.refl _⟩) (TkD.cons _ _ _ _ _ Rem.p1 (HLe.refl _) (TkD.cons _ _ _ _ _ Rem.p1 (HLe.refl _) (TkD.cons _ _ _ _ _ Rem.p1 (HLe.st ⟨⟨trivial, DLe.refl _⟩, DLe.refl _⟩) (TkD.nil _))))))))
 rintro v h ⟨l50, l51, l52, x53, β42, β44, rfl, rfl, rfl⟩
 have H := HK47; clear HK47
 refine GoK.code ?_
 refine GoC.seq ?_
 refine GoC.region ?_
 refine GoO.pure (ps_move rfl rfl) ?_
 have hb := bind_l H; clear H
 obtain ⟨l91, e92, H⟩ := hb
 have c93 := ck_l H; replace H := ck_r H
 refine GoO.effC (ef_call rfl (Take.cons _ _ _ _ _ Rem.p1 (Take.nil _)) (Take.nil _) (slices_Reverse_int_spec l51 β42 e92) (LendL.cons (Lend.refl _ _) (LendL.nil)) rfl (slices_Reverse_int_I (l91) β42)) (fun rr HH hp => ?_)
 obtain ⟨rfl, rfl⟩ := hp
 refine GoO.nil ?_
 refine GoK.code ?_
 refine GoC.seq ?_
 refine GoC.region ?_
 refine GoO.pure (ps_move rfl rfl) ?_
 refine GoO.pure (ps_assign rfl rfl) ?_
 refine GoO.pure (ps_assign rfl rfl) ?_
 refine GoO.nil ?_
 refine GoK.code ?_
 obtain rfl := Option.some.inj H
 exact GoC.retL (ds := [.own β42 1 0 l91.length, .v (.int .i64 0)]) Try.results34 (ResL.cons (ResD.le (ResD.tmp rfl) (by exact DLe.len (by first | rfl | omega | (simp only [row_len, c93] <;> first | rfl | omega)))) (ResL.cons (ResD.tmp rfl) (ResL.nil))) (Take.cons _ _ _ _ _ Rem.p0 (Take.nil _)) ⟨β42, rfl, rfl⟩

end Go.Proofs.Ytblhoelmodbifaa
