/- The functions weirkeep.EulerTurned, told as plain functions, and that the code does as they say. -/
import Derived.Test.YtblhoelmodbifaaTys
import Derived.Test.YtblhoelmodbifaaDat
import Derived.Test.YtblhoelmodbifaaGeuler
import Derived.Test.YtblhoelmodbifaaGgraph
import Derived.Test.YtblhoelmodbifaaGkeep
namespace Go.Proofs.Ytblhoelmodbifaa
open Go Go.Proofs.Ytblhoelmodbifaa.Sx
set_option linter.unusedVariables false
set_option linter.unusedSimpArgs false
def weirkeep_EulerTurned_B1 (g : Graph) (r16 : (List Int)) : Nat → Option (Ct (Nat) (Bool)) := fun n26 =>
 if ((n26 : Nat) : Int) < ((r16.length : Nat) : Int) then
  ck (n26 < r16.length) <|
  ck (InI (((n26 : Nat) : Int) - 1)) <|
  ck (0 ≤ (((n26 : Nat) : Int) - 1) ∧ (((n26 : Nat) : Int) - 1) < ((r16.length : Nat) : Int)) <|
  if (min (r16.getD n26 (0 : Int)) (r16.getD ((((n26 : Nat) : Int) - 1).toNat) (0 : Int))) < 0 then
   some (.ret false)
  else
   if ((g.as.length : Nat) : Int) ≤ (max (r16.getD n26 (0 : Int)) (r16.getD ((((n26 : Nat) : Int) - 1).toNat) (0 : Int))) then
    some (.ret false)
   else
    ck (0 ≤ (r16.getD n26 (0 : Int)) ∧ (r16.getD n26 (0 : Int)) < ((g.as.length : Nat) : Int)) <|
    ck (0 ≤ (r16.getD ((((n26 : Nat) : Int) - 1).toNat) (0 : Int)) ∧ (r16.getD ((((n26 : Nat) : Int) - 1).toNat) (0 : Int)) < ((g.as.length : Nat) : Int)) <|
    if ((g.as.getD ((r16.getD n26 (0 : Int)).toNat) El.d).t) ≠ ((g.as.getD ((r16.getD ((((n26 : Nat) : Int) - 1).toNat) (0 : Int)).toNat) El.d).f) then
     some (.ret false)
    else
     ck (InI (((n26 : Nat) : Int) + 1)) <|
     some (.go (n26 + 1))
 else
  some (.brk n26)
def weirkeep_EulerTurned_F (g : Graph) : Option (Bool) :=
 (weirkeep_rounds_F).bind fun r2 =>
 if (!r2) = true then
  some false
 else
  (graph_Turn_F g).bind fun (r5, r7) =>
  (euler_Can_F g).bind fun (r10, r11) =>
  (euler_Can_F r5).bind fun (r13, r14) =>
  (euler_Trail_F r5).bind fun (r16, r18) =>
  if r7 ≠ 0 then
   if r11 = r7 then
    some (decide (r10 = 0))
   else
    some false
  else
   if r11 ≠ 0 then
    if r11 = r14 then
     some (decide (r10 = r13))
    else
     some false
   else
    if r14 ≠ 0 then
     if r11 = r14 then
      some (decide (r10 = r13))
     else
      some false
    else
     if r18 ≠ 0 then
      if r11 = r14 then
       some (decide (r10 = r13))
      else
       some false
     else
      (loopC (weirkeep_EulerTurned_B1 g r16) 1000000 1).bind fun q => match q with
      | .go n30 =>
       if r10 = r13 then
        some (decide (((r16.length : Nat) : Int) = ((g.as.length : Nat) : Int)))
       else
        some false
      | .ret x => some x
def weirkeep_EulerTurned_P (out : Bool) (d : D) (H : List HL) : Prop := d = .v (.bool out) ∧ H = []
theorem weirkeep_EulerTurned_I (out : Bool) : IndepP (weirkeep_EulerTurned_P out) := IndepP.of (by rintro _ _ ⟨rfl, rfl⟩; exact ⟨inferInstance, inferInstance⟩)
set_option maxRecDepth 100000 in
set_option maxHeartbeats 4000000 in
theorem weirkeep_EulerTurned_spec (g : Graph) {out : Bool} (H : weirkeep_EulerTurned_F g = some out) : Does Try.prog 10 [.ag 2 (nth [.v (.int .i64 g.n), slD g.as])] [] (weirkeep_EulerTurned_P out) := by
 unfold weirkeep_EulerTurned_F at H
 refine Does.intro Try.func10 rfl Try.ntmps10 rfl fun w0 I0 => ?_
 refine GoC.seq ?_
 refine GoC.region ?_
 refine GoO.effB (ef_boxAg rfl rfl) (fun β1 => ?_)
 refine GoO.pure (ps_assign rfl rfl) ?_
 refine GoO.nil ?_
 refine GoK.code ?_
 refine GoC.seq ?_
 refine GoC.seq ?_
 refine GoC.region ?_
 have hb := bind_l H; clear H
 obtain ⟨r2, e3, H⟩ := hb
 refine GoO.effC (ef_call rfl (Take.nil _) (Take.nil _) (weirkeep_rounds_spec e3) (LendL.nil) rfl (weirkeep_rounds_I (r2))) (fun rr HH hp => ?_)
 obtain ⟨rfl, rfl⟩ := hp
 refine GoO.pure (ps_not rfl rfl) ?_
 refine GoO.nil ?_
 refine GoK.code ?_
 refine GoC.cond rfl (fun h4 => ?_) (fun h4 => ?_)
 replace H := itb_t h4 H
 refine GoC.seq ?_
 refine GoC.region ?_
 refine GoO.pure (ps_assign rfl rfl) ?_
 refine GoO.nil ?_
 refine GoK.code ?_
 obtain rfl := Option.some.inj H
 exact GoC.retL (ds := [.v (.bool false)]) Try.results10 (ResL.cons (ResD.tmp rfl) (ResL.nil)) (Take.nil _) ⟨rfl, rfl⟩
 replace H := itb_f h4 H
 refine GoC.skip ?_
 refine GoK.code ?_
 refine GoC.seq ?_
 refine GoC.region ?_
 refine GoO.pure (ps_loadAg rfl At.p0 At.p0 Nat.zero_lt_one rfl rfl) ?_
 have hb := bind_l H; clear H
 obtain ⟨⟨r5, r7⟩, e8, H⟩ := hb
 refine GoO.effC (ef_call rfl (Take.nil _) (Take.nil _) (graph_Turn_spec g e8) (LendL.cons (Lend.agA ⟨⟨trivial, Lend.refl _ _⟩, Lend.refl _ _⟩) (LendL.nil)) rfl (graph_Turn_I (r5, r7))) (fun rr HH hp => ?_)
 obtain ⟨β6, rfl, rfl⟩ := hp
 refine GoO.pure (ps_move rfl rfl) ?_
 refine GoO.pure (ps_extract rfl rfl rfl) ?_
 refine GoO.pure (ps_extract rfl rfl rfl) ?_
 refine GoO.effB (ef_alloc rfl) (fun β9 => ?_)
 refine GoO.eff1 (ef_storeAg rfl rfl At.p0 upd_whole Nat.zero_lt_one rfl) ?_
 refine GoO.pure (ps_assign rfl rfl) ?_
 refine GoO.nil ?_
 refine GoK.code ?_
 refine GoC.seq ?_
 refine GoC.region ?_
 refine GoO.pure (ps_loadAg rfl At.p2 At.p2 Nat.zero_lt_one rfl rfl) ?_
 have hb := bind_l H; clear H
 obtain ⟨⟨r10, r11⟩, e12, H⟩ := hb
 refine GoO.effC (ef_call rfl (Take.nil _) (Take.nil _) (euler_Can_spec g e12) (LendL.cons (Lend.agA ⟨⟨trivial, Lend.refl _ _⟩, Lend.refl _ _⟩) (LendL.nil)) rfl (euler_Can_I (r10, r11))) (fun rr HH hp => ?_)
 obtain ⟨rfl, rfl⟩ := hp
 refine GoO.pure (ps_move rfl rfl) ?_
 refine GoO.pure (ps_extract rfl rfl rfl) ?_
 refine GoO.pure (ps_extract rfl rfl rfl) ?_
 refine GoO.pure (ps_assign rfl rfl) ?_
 refine GoO.pure (ps_assign rfl rfl) ?_
 refine GoO.nil ?_
 refine GoK.code ?_
 refine GoC.seq ?_
 refine GoC.region ?_
 refine GoO.pure (ps_loadAg rfl At.p0 At.p0 Nat.zero_lt_one rfl rfl) ?_
 have hb := bind_l H; clear H
 obtain ⟨⟨r13, r14⟩, e15, H⟩ := hb
 refine GoO.effC (ef_call rfl (Take.nil _) (Take.cons _ _ _ _ _ Rem.p1 (Take.nil _)) (euler_Can_spec r5 e15) (LendL.cons (Lend.agA ⟨⟨trivial, Lend.refl _ _⟩, Lend.all' At.p0 (by first | rfl | omega | (simp only [subl_length, List.length_set, List.length_append, List.length_cons, List.length_nil, List.length_replicate, row_len] <;> first | rfl | omega)) rfl⟩) (LendL.nil)) rfl (euler_Can_I (r13, r14))) (fun rr HH hp => ?_)
 obtain ⟨rfl, rfl⟩ := hp
 refine GoO.pure (ps_move rfl rfl) ?_
 refine GoO.pure (ps_extract rfl rfl rfl) ?_
 refine GoO.pure (ps_extract rfl rfl rfl) ?_
 refine GoO.pure (ps_assign rfl rfl) ?_
 refine GoO.pure (ps_assign rfl rfl) ?_
 refine GoO.nil ?_
 refine GoK.code ?_
 refine GoC.seq ?_
 refine GoC.region ?_
 refine GoO.pure (ps_loadAg rfl At.p0 At.p0 Nat.zero_lt_one rfl rfl) ?_
 have hb := bind_l H; clear H
 obtain ⟨⟨r16, r18⟩, e19, H⟩ := hb
 refine GoO.effC (ef_call rfl (Take.nil _) (Take.cons _ _ _ _ _ Rem.p1 (Take.nil _)) (euler_Trail_spec r5 e19) (LendL.cons (Lend.agA ⟨⟨trivial, Lend.refl _ _⟩, Lend.all' At.p0 (by first | rfl | omega | (simp only [subl_length, List.length_set, List.length_append, List.length_cons, List.length_nil, List.length_replicate, row_len] <;> first | rfl | omega)) rfl⟩) (LendL.nil)) rfl (euler_Trail_I (r16, r18))) (fun rr HH hp => ?_)
 obtain ⟨β17, rfl, rfl⟩ := hp
 refine GoO.pure (ps_move rfl rfl) ?_
 refine GoO.pure (ps_extract rfl rfl rfl) ?_
 refine GoO.pure (ps_extract rfl rfl rfl) ?_
 refine GoO.pure (ps_assign rfl rfl) ?_
 refine GoO.pure (ps_assign rfl rfl) ?_
 refine GoO.nil ?_
 refine GoK.code ?_
 refine GoC.seq ?_
 refine GoC.seq ?_
 refine GoC.region ?_
 refine GoO.pure (ps_move rfl rfl) ?_
 refine GoO.pure (ps_neq rfl rfl rfl) ?_
 refine GoO.nil ?_
 refine GoK.code ?_
 refine GoC.condD rfl (fun h20 => ?_) (fun h20 => ?_)
 replace H := ite_t h20 H
 refine GoC.seq ?_
 refine GoC.region ?_
 refine GoO.pure (ps_move rfl rfl) ?_
 refine GoO.pure (ps_move rfl rfl) ?_
 refine GoO.pure (ps_eql rfl rfl rfl) ?_
 refine GoO.pure (ps_move rfl rfl) ?_
 refine GoO.guardD rfl rfl rfl rfl (fun h21 => ?_) (fun h21 => ?_)
 replace H := ite_t h21 H
 refine GoO.pure (ps_move rfl rfl) ?_
 refine GoO.guardT rfl rfl rfl ?_
 refine GoO.pure (ps_eql rfl rfl rfl) ?_
 refine GoO.pure (ps_pickT rfl rfl rfl) ?_
 refine GoO.pure (ps_assign rfl rfl) ?_
 refine GoO.nil ?_
 refine GoK.code ?_
 obtain rfl := Option.some.inj H
 exact GoC.retL (ds := [.v (.bool (decide (r10 = 0)))]) Try.results10 (ResL.cons (ResD.tmp rfl) (ResL.nil)) (Take.nil _) ⟨rfl, rfl⟩
 replace H := ite_f h21 H
 refine GoO.guardF rfl rfl rfl rfl ?_
 refine GoO.pure (ps_pickF rfl rfl rfl) ?_
 refine GoO.pure (ps_assign rfl rfl) ?_
 refine GoO.nil ?_
 refine GoK.code ?_
 obtain rfl := Option.some.inj H
 exact GoC.retL (ds := [.v (.bool false)]) Try.results10 (ResL.cons (ResD.tmp rfl) (ResL.nil)) (Take.nil _) ⟨rfl, rfl⟩
 replace H := ite_f h20 H
 refine GoC.skip ?_
 refine GoK.code ?_
 refine GoC.seq ?_
 refine GoC.seq ?_
 refine GoC.region ?_
 refine GoO.pure (ps_move rfl rfl) ?_
 refine GoO.pure (ps_neq rfl rfl rfl) ?_
 refine GoO.pure (ps_move rfl rfl) ?_
 refine GoO.guardE rfl rfl rfl rfl (fun h22 => ?_) (fun h22 => ?_)
 replace H := ite_f h22 H
 refine GoO.pure (ps_move rfl rfl) ?_
 refine GoO.guardT rfl rfl rfl ?_
 refine GoO.pure (ps_neq rfl rfl rfl) ?_
 refine GoO.pure (ps_pickF rfl rfl rfl) ?_
 refine GoO.pure (ps_move rfl rfl) ?_
 refine GoO.guardE rfl rfl rfl rfl (fun h23 => ?_) (fun h23 => ?_)
 replace H := ite_f h23 H
 refine GoO.pure (ps_move rfl rfl) ?_
 refine GoO.guardT rfl rfl rfl ?_
 refine GoO.pure (ps_neq rfl rfl rfl) ?_
 refine GoO.pure (ps_pickF rfl rfl rfl) ?_
 refine GoO.nil ?_
 refine GoK.code ?_
 refine GoC.condD rfl (fun h24 => ?_) (fun h24 => ?_)
 replace H := ite_t h24 H
 refine GoC.seq ?_
 refine GoC.region ?_
 refine GoO.pure (ps_move rfl rfl) ?_
 refine GoO.pure (ps_move rfl rfl) ?_
 refine GoO.pure (ps_eql rfl rfl rfl) ?_
 refine GoO.pure (ps_move rfl rfl) ?_
 refine GoO.guardD rfl rfl rfl rfl (fun h25 => ?_) (fun h25 => ?_)
 replace H := ite_t h25 H
 refine GoO.pure (ps_move rfl rfl) ?_
 refine GoO.guardT rfl rfl rfl ?_
 refine GoO.pure (ps_move rfl rfl) ?_
 refine GoO.guardT rfl rfl rfl ?_
 refine GoO.pure (ps_eql rfl rfl rfl) ?_
 refine GoO.pure (ps_pickT rfl rfl rfl) ?_
 refine GoO.pure (ps_assign rfl rfl) ?_
 refine GoO.nil ?_
 refine GoK.code ?_
 obtain rfl := Option.some.inj H
 exact GoC.retL (ds := [.v (.bool (decide (r10 = r13)))]) Try.results10 (ResL.cons (ResD.tmp rfl) (ResL.nil)) (Take.nil _) ⟨rfl, rfl⟩
 replace H := ite_f h25 H
 refine GoO.guardF rfl rfl rfl rfl ?_
 refine GoO.guardF rfl rfl rfl rfl ?_
 refine GoO.pure (ps_pickF rfl rfl rfl) ?_
 refine GoO.pure (ps_assign rfl rfl) ?_
 refine GoO.nil ?_
 refine GoK.code ?_
 obtain rfl := Option.some.inj H
 exact GoC.retL (ds := [.v (.bool false)]) Try.results10 (ResL.cons (ResD.tmp rfl) (ResL.nil)) (Take.nil _) ⟨rfl, rfl⟩
 replace H := ite_f h24 H
 refine GoC.skip ?_
 refine GoK.code ?_
 refine GoC.seq ?_
 refine GoC.seq ?_
 refine GoC.region ?_
 refine GoO.pure (ps_assign rfl rfl) ?_
 refine GoO.nil ?_
 refine GoK.code ?_
 have hb := bind_l H; clear H
 obtain ⟨q29, hl43, HK27⟩ := hb
 refine GoC.blockJ [(1, .ptr β1 2 0 0), (5, .v (.int .i64 r10)), (7, .v (.int .i64 r13)), (9, .own β17 1 0 r16.length)] [.one β17 3 1 (row r16), .one β9 33 2 (st1 (nth [.v (.int .i64 r5.n), .own β6 3 0 r5.as.length])), .one β6 43 3 (row r5.as), .one β1 33 2 (st1 (nth [.v (.int .i64 g.n), slD g.as]))] (fun v h => ∃ (n30 : Nat), q29 = .go n30 ∧ v = [] ∧ h = []) ?_ ?_
 refine GoC.loopJ [(1, _), (5, _), (7, _), (9, _)] [.one β17 3 1 (row r16), .one β9 33 2 (st1 (nth [.v (.int .i64 r5.n), .own β6 3 0 r5.as.length])), .one β6 43 3 (row r5.as), .one β1 33 2 (st1 (nth [.v (.int .i64 g.n), slD g.as]))] (fun m v h => ∃ (n26 : Nat), loopC (weirkeep_EulerTurned_B1 g r16) m n26 = some q29 ∧ v = [(11, .v (.int .i64 ((n26 : Nat) : Int)))] ∧ h = []) 1000000 ⟨_, hl43, rfl, rfl⟩ (EnvD.eq rfl (EnvD.eq rfl (EnvD.eq rfl (EnvD.eq rfl (EnvD.eq rfl (EnvD.nil)))))) (TkD.cons _ _ _ _ _ Rem.p0 (HLe.refl _) (TkD.cons _ _ _ _ _ Rem.p0 (HLe.st ⟨⟨trivial, DLe.refl _⟩, DLe.refl _⟩) (TkD.cons _ _ _ _ _ Rem.p0 (HLe.refl _) (TkD.cons _ _ _ _ _ Rem.p0 (HLe.st ⟨⟨trivial, DLe.refl _⟩, DLe.refl _⟩) (TkD.nil _))))) ?_
 rintro m31 v h ⟨n26, hF28, rfl, rfl⟩
 obtain ⟨m31', rfl⟩ | rfl : (∃ x, m31 = x + 1) ∨ m31 = 0 := by cases m31 <;> simp
 case inr => cases hF28
 have hb := bind_l hF28; clear hF28
 obtain ⟨qrm31, H, hF28⟩ := hb
 refine GoC.seq ?_
 refine GoC.seq ?_
 refine GoC.region ?_
 refine GoO.pure (ps_move rfl rfl) ?_
 refine GoO.pure (ps_move rfl rfl) ?_
 refine GoO.pure (ps_len rfl (by constructor) rfl) ?_
 refine GoO.lenLe (n := r16.length) (x := .tmp 62) rfl (by constructor) own_lenLe (fun ml32 => ?_)
 refine GoO.pure (ps_lss rfl rfl rfl) ?_
 refine GoO.nil ?_
 refine GoK.code ?_
 refine GoC.condD rfl (fun h33 => ?_) (fun h33 => ?_)
 replace H := ite_t h33 H
 refine GoC.skip ?_
 refine GoK.code ?_
 refine GoC.seq ?_
 refine GoC.block ?_
 refine GoC.seq ?_
 refine GoC.drawA (.q 0 (.q 1 (.q 2 (.q 3 (.q 4 (.q 5 (.q 6 (.q 7 (.q 8 (.q 9 (.q 10 (.q 11 (.q 12 (.q 13 (.q 14 (.q 15 (.q 16 (.q 17 (.q 18 (.q 19 (.q 20 (.q 21 (.q 22 (.q 23 (.q 24 (.q 25 (.q 26 (.q 27 (.q 28 (.q 29 (.q 30 (.q 31 (.q 32 (.q 33 (.q 34 (.q 35 (.q 36 (.q 37 (.q 38 (.q 39 (.q 40 (.q 41 (.q 42 (.q 43 (.q 44 (.q 45 (.q 46 (.q 47 (.q 48 (.done)))))))))))))))))))))))))))))))))))))))))))))))))) follows (by kernel_rfl) ?_
 refine GoP.qN rfl (ps_move rfl rfl) ?_
 refine GoP.qN rfl (ps_move rfl rfl) ?_
 have c34 := ck_l H; replace H := ck_r H
 refine GoP.qN rfl (ps_indexAddr0N rfl rfl c34 rfl) ?_
 refine GoP.qN rfl (ps_load rfl At.p0 At.p0 c34 rfl rfl) ?_
 refine GoP.qN rfl (ps_move rfl rfl) ?_
 refine GoP.qN rfl (ps_move rfl rfl) ?_
 have c35 := ck_l H; replace H := ck_r H
 refine GoP.qN rfl (ps_sub rfl rfl rfl c35) ?_
 have c36 := ck_l H; replace H := ck_r H
 refine GoP.qN rfl (ps_indexAddr0 rfl rfl c36 rfl) ?_
 refine GoP.qN rfl (ps_load rfl At.p0 At.p0 (idx_lt c36) rfl rfl) ?_
 refine GoP.qN rfl (ps_min rfl rfl rfl) ?_
 refine GoP.qN rfl (ps_lss rfl rfl rfl) ?_
 refine GoP.qN rfl (ps_move rfl rfl) ?_
 refine GoP.decideD 78 rfl (fun h37 => ?_) (fun h37 => ?_)
 replace H := ite_t h37 H
 refine GoP.qF rfl rfl rfl rfl rfl ?_
 refine GoP.qF rfl rfl rfl rfl rfl ?_
 refine GoP.qF rfl rfl rfl rfl rfl ?_
 refine GoP.qF rfl rfl rfl rfl rfl ?_
 refine GoP.qF rfl rfl rfl rfl rfl ?_
 refine GoP.qF rfl rfl rfl rfl rfl ?_
 refine GoP.qF rfl rfl rfl rfl rfl ?_
 refine GoP.qF rfl rfl rfl rfl rfl ?_
 refine GoP.qF rfl rfl rfl rfl rfl ?_
 refine GoP.qF rfl rfl rfl rfl rfl ?_
 refine GoP.qF rfl rfl rfl rfl rfl ?_
 refine GoP.qF rfl rfl rfl rfl rfl ?_
 refine GoP.qF rfl rfl rfl rfl rfl ?_
 refine GoP.qF rfl rfl rfl rfl rfl ?_
 refine GoP.qN rfl (ps_pickT rfl rfl rfl) ?_
 refine GoP.qN rfl (ps_move rfl rfl) ?_
 refine GoP.qF rfl rfl rfl rfl rfl ?_
 refine GoP.qF rfl rfl rfl rfl rfl ?_
 refine GoP.qF rfl rfl rfl rfl rfl ?_
 refine GoP.qF rfl rfl rfl rfl rfl ?_
 refine GoP.qF rfl rfl rfl rfl rfl ?_
 refine GoP.qF rfl rfl rfl rfl rfl ?_
 refine GoP.qF rfl rfl rfl rfl rfl ?_
 refine GoP.qF rfl rfl rfl rfl rfl ?_
 refine GoP.qF rfl rfl rfl rfl rfl ?_
 refine GoP.qF rfl rfl rfl rfl rfl ?_
 refine GoP.qF rfl rfl rfl rfl rfl ?_
 refine GoP.qF rfl rfl rfl rfl rfl ?_
 refine GoP.qF rfl rfl rfl rfl rfl ?_
 refine GoP.qF rfl rfl rfl rfl rfl ?_
 refine GoP.qF rfl rfl rfl rfl rfl ?_
 refine GoP.qF rfl rfl rfl rfl rfl ?_
 refine GoP.qF rfl rfl rfl rfl rfl ?_
 refine GoP.qF rfl rfl rfl rfl rfl ?_
 refine GoP.qF rfl rfl rfl rfl rfl ?_
 refine GoP.qF rfl rfl rfl rfl rfl ?_
 refine GoP.qN rfl (ps_pickT rfl rfl rfl) ?_
 refine GoP.done ?_
 refine GoK.code ?_
 refine GoC.condT rfl ?_
 refine GoC.seq ?_
 refine GoC.region ?_
 refine GoO.pure (ps_assign rfl rfl) ?_
 refine GoO.nil ?_
 refine GoK.code ?_
 obtain rfl := Option.some.inj H
 obtain rfl := Option.some.inj hF28
 obtain rfl := Option.some.inj HK27
 exact GoC.retL (ds := [.v (.bool false)]) Try.results10 (ResL.cons (ResD.tmp rfl) (ResL.nil)) (Take.nil _) ⟨rfl, rfl⟩
 replace H := ite_f h37 H
 refine GoP.qT rfl rfl rfl rfl (ps_move rfl rfl) ?_
 refine GoP.qT rfl rfl rfl rfl (ps_move rfl rfl) ?_
 refine GoP.qT rfl rfl rfl rfl (ps_indexAddr0N rfl rfl c34 rfl) ?_
 refine GoP.qT rfl rfl rfl rfl (ps_load rfl At.p0 At.p0 c34 rfl rfl) ?_
 refine GoP.qT rfl rfl rfl rfl (ps_move rfl rfl) ?_
 refine GoP.qT rfl rfl rfl rfl (ps_move rfl rfl) ?_
 refine GoP.qT rfl rfl rfl rfl (ps_sub rfl rfl rfl c35) ?_
 refine GoP.qT rfl rfl rfl rfl (ps_indexAddr0 rfl rfl c36 rfl) ?_
 refine GoP.qT rfl rfl rfl rfl (ps_load rfl At.p0 At.p0 (idx_lt c36) rfl rfl) ?_
 refine GoP.qT rfl rfl rfl rfl (ps_max rfl rfl rfl) ?_
 refine GoP.qT rfl rfl rfl rfl (ps_fieldAddr rfl rfl) ?_
 refine GoP.qT rfl rfl rfl rfl (ps_load rfl At.p3 At.p3 Nat.zero_lt_one rfl rfl) ?_
 refine GoP.qT rfl rfl rfl rfl (ps_len rfl (by constructor) rfl) ?_
 refine GoP.qT rfl rfl rfl rfl (ps_geq rfl rfl rfl) ?_
 refine GoP.qN rfl (ps_pickF rfl rfl rfl) ?_
 refine GoP.qN rfl (ps_move rfl rfl) ?_
 refine GoP.decideD 94 rfl (fun h38 => ?_) (fun h38 => ?_)
 replace H := ite_t h38 H
 refine GoP.qF rfl rfl rfl rfl rfl ?_
 refine GoP.qF rfl rfl rfl rfl rfl ?_
 refine GoP.qF rfl rfl rfl rfl rfl ?_
 refine GoP.qF rfl rfl rfl rfl rfl ?_
 refine GoP.qF rfl rfl rfl rfl rfl ?_
 refine GoP.qF rfl rfl rfl rfl rfl ?_
 refine GoP.qF rfl rfl rfl rfl rfl ?_
 refine GoP.qF rfl rfl rfl rfl rfl ?_
 refine GoP.qF rfl rfl rfl rfl rfl ?_
 refine GoP.qF rfl rfl rfl rfl rfl ?_
 refine GoP.qF rfl rfl rfl rfl rfl ?_
 refine GoP.qF rfl rfl rfl rfl rfl ?_
 refine GoP.qF rfl rfl rfl rfl rfl ?_
 refine GoP.qF rfl rfl rfl rfl rfl ?_
 refine GoP.qF rfl rfl rfl rfl rfl ?_
 refine GoP.qF rfl rfl rfl rfl rfl ?_
 refine GoP.qF rfl rfl rfl rfl rfl ?_
 refine GoP.qF rfl rfl rfl rfl rfl ?_
 refine GoP.qF rfl rfl rfl rfl rfl ?_
 refine GoP.qF rfl rfl rfl rfl rfl ?_
 refine GoP.qN rfl (ps_pickT rfl rfl rfl) ?_
 refine GoP.done ?_
 refine GoK.code ?_
 refine GoC.condT rfl ?_
 refine GoC.seq ?_
 refine GoC.region ?_
 refine GoO.pure (ps_assign rfl rfl) ?_
 refine GoO.nil ?_
 refine GoK.code ?_
 obtain rfl := Option.some.inj H
 obtain rfl := Option.some.inj hF28
 obtain rfl := Option.some.inj HK27
 exact GoC.retL (ds := [.v (.bool false)]) Try.results10 (ResL.cons (ResD.tmp rfl) (ResL.nil)) (Take.nil _) ⟨rfl, rfl⟩
 replace H := ite_f h38 H
 refine GoP.qT rfl rfl rfl rfl (ps_fieldAddr rfl rfl) ?_
 refine GoP.qT rfl rfl rfl rfl (ps_load rfl At.p3 At.p3 Nat.zero_lt_one rfl rfl) ?_
 refine GoP.qT rfl rfl rfl rfl (ps_move rfl rfl) ?_
 refine GoP.qT rfl rfl rfl rfl (ps_move rfl rfl) ?_
 refine GoP.qT rfl rfl rfl rfl (ps_indexAddr0N rfl rfl c34 rfl) ?_
 refine GoP.qT rfl rfl rfl rfl (ps_load rfl At.p0 At.p0 c34 rfl rfl) ?_
 have c39 := ck_l H; replace H := ck_r H
 refine GoP.qT rfl rfl rfl rfl (ps_indexAddrR rfl rfl c39 rfl) ?_
 refine GoP.qT rfl rfl rfl rfl (ps_fieldAddrR rfl rfl) ?_
 refine GoP.qT rfl rfl rfl rfl (ps_loadR rfl (idx_lt c39) rfl rfl) ?_
 refine GoP.qT rfl rfl rfl rfl (ps_fieldAddr rfl rfl) ?_
 refine GoP.qT rfl rfl rfl rfl (ps_load rfl At.p3 At.p3 Nat.zero_lt_one rfl rfl) ?_
 refine GoP.qT rfl rfl rfl rfl (ps_move rfl rfl) ?_
 refine GoP.qT rfl rfl rfl rfl (ps_move rfl rfl) ?_
 refine GoP.qT rfl rfl rfl rfl (ps_sub rfl rfl rfl c35) ?_
 refine GoP.qT rfl rfl rfl rfl (ps_indexAddr0 rfl rfl c36 rfl) ?_
 refine GoP.qT rfl rfl rfl rfl (ps_load rfl At.p0 At.p0 (idx_lt c36) rfl rfl) ?_
 have c40 := ck_l H; replace H := ck_r H
 refine GoP.qT rfl rfl rfl rfl (ps_indexAddrR rfl rfl c40 rfl) ?_
 refine GoP.qT rfl rfl rfl rfl (ps_fieldAddrR rfl rfl) ?_
 refine GoP.qT rfl rfl rfl rfl (ps_loadR rfl (idx_lt c40) rfl rfl) ?_
 refine GoP.qT rfl rfl rfl rfl (ps_neq rfl rfl rfl) ?_
 refine GoP.qN rfl (ps_pickF rfl rfl rfl) ?_
 refine GoP.done ?_
 refine GoK.code ?_
 refine GoC.condD rfl (fun h41 => ?_) (fun h41 => ?_)
 replace H := ite_t h41 H
 refine GoC.seq ?_
 refine GoC.region ?_
 refine GoO.pure (ps_assign rfl rfl) ?_
 refine GoO.nil ?_
 refine GoK.code ?_
 obtain rfl := Option.some.inj H
 obtain rfl := Option.some.inj hF28
 obtain rfl := Option.some.inj HK27
 exact GoC.retL (ds := [.v (.bool false)]) Try.results10 (ResL.cons (ResD.tmp rfl) (ResL.nil)) (Take.nil _) ⟨rfl, rfl⟩
 replace H := ite_f h41 H
 refine GoC.skip ?_
 refine GoK.blk ?_
 refine GoK.code ?_
 refine GoC.region ?_
 refine GoO.pure (ps_move rfl rfl) ?_
 have c42 := ck_l H; replace H := ck_r H
 refine GoO.pure (ps_add rfl rfl rfl c42) ?_
 refine GoO.pure (ps_assign rfl rfl) ?_
 refine GoO.nil ?_
 obtain rfl := Option.some.inj H
 exact GoK.againJ m31' (by omega) ⟨_, hF28, rfl, rfl⟩ (EnvD.eq rfl (EnvD.eq rfl (EnvD.eq rfl (EnvD.eq rfl (EnvD.eq rfl (EnvD.nil)))))) (TkD.cons _ _ _ _ _ Rem.p0 (HLe.refl _) (TkD.cons _ _ _ _ _ Rem.p0 (HLe.st ⟨⟨trivial, DLe.refl _⟩, DLe.refl _⟩) (TkD.cons _ _ _ _ _ Rem.p0 (HLe.refl _) (TkD.cons _ _ _ _ _ Rem.p0 (HLe.st ⟨⟨trivial, DLe.refl _⟩, DLe.refl _⟩) (TkD.nil _)))))
 replace H := ite_f h33 H
 refine GoC.exit rfl ?_
 obtain rfl := Option.some.inj H
 obtain rfl := Option.some.inj hF28
 exact GoK.meet ⟨_, rfl, rfl, rfl⟩ (EnvD.eq rfl (EnvD.eq rfl (EnvD.eq rfl (EnvD.eq rfl (EnvD.nil))))) (TkD.cons _ _ _ _ _ Rem.p0 (HLe.refl _) (TkD.cons _ _ _ _ _ Rem.p0 (HLe.st ⟨⟨trivial, DLe.refl _⟩, DLe.refl _⟩) (TkD.cons _ _ _ _ _ Rem.p0 (HLe.refl _) (TkD.cons _ _ _ _ _ Rem.p0 (HLe.st ⟨⟨trivial, DLe.refl _⟩, DLe.refl _⟩) (TkD.nil _)))))
 rintro v h ⟨n30, rfl, rfl, rfl⟩
 have H := HK27; clear HK27
 refine GoK.code ?_
 refine GoC.seq ?_
 refine GoC.region ?_
 refine GoO.pure (ps_move rfl rfl) ?_
 refine GoO.pure (ps_move rfl rfl) ?_
 refine GoO.pure (ps_eql rfl rfl rfl) ?_
 refine GoO.pure (ps_move rfl rfl) ?_
 refine GoO.guardD rfl rfl rfl rfl (fun h44 => ?_) (fun h44 => ?_)
 replace H := ite_t h44 H
 refine GoO.pure (ps_move rfl rfl) ?_
 refine GoO.guardT rfl rfl rfl ?_
 refine GoO.pure (ps_len rfl (by constructor) rfl) ?_
 refine GoO.lenLe (n := r16.length) (x := .tmp 120) rfl (by constructor) own_lenLe (fun ml45 => ?_)
 refine GoO.guardT rfl rfl rfl ?_
 refine GoO.pure (ps_fieldAddr rfl rfl) ?_
 refine GoO.guardT rfl rfl rfl ?_
 refine GoO.pure (ps_load rfl At.p3 At.p3 Nat.zero_lt_one rfl rfl) ?_
 refine GoO.guardT rfl rfl rfl ?_
 refine GoO.pure (ps_len rfl (by constructor) rfl) ?_
 refine GoO.lenLe (n := g.as.length) (x := .tmp 123) rfl (by constructor) sl_lenLe (fun ml46 => ?_)
 refine GoO.guardT rfl rfl rfl ?_
 refine GoO.pure (ps_eql rfl rfl rfl) ?_
 refine GoO.pure (ps_pickT rfl rfl rfl) ?_
 refine GoO.pure (ps_assign rfl rfl) ?_
 refine GoO.nil ?_
 refine GoK.code ?_
 obtain rfl := Option.some.inj H
 exact GoC.retL (ds := [.v (.bool (decide (((r16.length : Nat) : Int) = ((g.as.length : Nat) : Int))))]) Try.results10 (ResL.cons (ResD.tmp rfl) (ResL.nil)) (Take.nil _) ⟨rfl, rfl⟩
 replace H := ite_f h44 H
 refine GoO.guardF rfl rfl rfl rfl ?_
 refine GoO.guardF rfl rfl rfl rfl ?_
 refine GoO.guardF rfl rfl rfl rfl ?_
 refine GoO.guardF rfl rfl rfl rfl ?_
 refine GoO.guardF rfl rfl rfl rfl ?_
 refine GoO.pure (ps_pickF rfl rfl rfl) ?_
 refine GoO.pure (ps_assign rfl rfl) ?_
 refine GoO.nil ?_
 refine GoK.code ?_
 obtain rfl := Option.some.inj H
 exact GoC.retL (ds := [.v (.bool false)]) Try.results10 (ResL.cons (ResD.tmp rfl) (ResL.nil)) (Take.nil _) ⟨rfl, rfl⟩
 replace H := ite_t h23 H
 refine GoO.guardF rfl rfl rfl rfl ?_
 refine GoO.pure (ps_pickT rfl rfl rfl) ?_
 refine GoO.nil ?_
 refine GoK.code ?_
 refine GoC.condT rfl ?_
 refine GoC.seq ?_
 refine GoC.region ?_
 refine GoO.pure (ps_move rfl rfl) ?_
 refine GoO.pure (ps_move rfl rfl) ?_
 refine GoO.pure (ps_eql rfl rfl rfl) ?_
 refine GoO.pure (ps_move rfl rfl) ?_
 refine GoO.guardD rfl rfl rfl rfl (fun h47 => ?_) (fun h47 => ?_)
 replace H := ite_t h47 H
 refine GoO.pure (ps_move rfl rfl) ?_
 refine GoO.guardT rfl rfl rfl ?_
 refine GoO.pure (ps_move rfl rfl) ?_
 refine GoO.guardT rfl rfl rfl ?_
 refine GoO.pure (ps_eql rfl rfl rfl) ?_
 refine GoO.pure (ps_pickT rfl rfl rfl) ?_
 refine GoO.pure (ps_assign rfl rfl) ?_
 refine GoO.nil ?_
 refine GoK.code ?_
 obtain rfl := Option.some.inj H
 exact GoC.retL (ds := [.v (.bool (decide (r10 = r13)))]) Try.results10 (ResL.cons (ResD.tmp rfl) (ResL.nil)) (Take.nil _) ⟨rfl, rfl⟩
 replace H := ite_f h47 H
 refine GoO.guardF rfl rfl rfl rfl ?_
 refine GoO.guardF rfl rfl rfl rfl ?_
 refine GoO.pure (ps_pickF rfl rfl rfl) ?_
 refine GoO.pure (ps_assign rfl rfl) ?_
 refine GoO.nil ?_
 refine GoK.code ?_
 obtain rfl := Option.some.inj H
 exact GoC.retL (ds := [.v (.bool false)]) Try.results10 (ResL.cons (ResD.tmp rfl) (ResL.nil)) (Take.nil _) ⟨rfl, rfl⟩
 replace H := ite_t h22 H
 refine GoO.guardF rfl rfl rfl rfl ?_
 refine GoO.pure (ps_pickT rfl rfl rfl) ?_
 refine GoO.pure (ps_move rfl rfl) ?_
 refine GoO.guardF rfl rfl rfl rfl ?_
 refine GoO.guardF rfl rfl rfl rfl ?_
 refine GoO.pure (ps_pickT rfl rfl rfl) ?_
 refine GoO.nil ?_
 refine GoK.code ?_
 refine GoC.condT rfl ?_
 refine GoC.seq ?_
 refine GoC.region ?_
 refine GoO.pure (ps_move rfl rfl) ?_
 refine GoO.pure (ps_move rfl rfl) ?_
 refine GoO.pure (ps_eql rfl rfl rfl) ?_
 refine GoO.pure (ps_move rfl rfl) ?_
 refine GoO.guardD rfl rfl rfl rfl (fun h48 => ?_) (fun h48 => ?_)
 replace H := ite_t h48 H
 refine GoO.pure (ps_move rfl rfl) ?_
 refine GoO.guardT rfl rfl rfl ?_
 refine GoO.pure (ps_move rfl rfl) ?_
 refine GoO.guardT rfl rfl rfl ?_
 refine GoO.pure (ps_eql rfl rfl rfl) ?_
 refine GoO.pure (ps_pickT rfl rfl rfl) ?_
 refine GoO.pure (ps_assign rfl rfl) ?_
 refine GoO.nil ?_
 refine GoK.code ?_
 obtain rfl := Option.some.inj H
 exact GoC.retL (ds := [.v (.bool (decide (r10 = r13)))]) Try.results10 (ResL.cons (ResD.tmp rfl) (ResL.nil)) (Take.nil _) ⟨rfl, rfl⟩
 replace H := ite_f h48 H
 refine GoO.guardF rfl rfl rfl rfl ?_
 refine GoO.guardF rfl rfl rfl rfl ?_
 refine GoO.pure (ps_pickF rfl rfl rfl) ?_
 refine GoO.pure (ps_assign rfl rfl) ?_
 refine GoO.nil ?_
 refine GoK.code ?_
 obtain rfl := Option.some.inj H
 exact GoC.retL (ds := [.v (.bool false)]) Try.results10 (ResL.cons (ResD.tmp rfl) (ResL.nil)) (Take.nil _) ⟨rfl, rfl⟩

end Go.Proofs.Ytblhoelmodbifaa
