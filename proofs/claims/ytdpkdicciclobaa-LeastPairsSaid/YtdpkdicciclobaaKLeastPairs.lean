/- The functions weirkeep.LeastPairs, told as plain functions, and that the code does as they say. -/
import Derived.Test.YtdpkdicciclobaaTys
import Derived.Test.YtdpkdicciclobaaDat
import Derived.Test.YtdpkdicciclobaaGkeep
import Derived.Test.YtdpkdicciclobaaGleast
import Derived.Test.YtdpkdicciclobaaGpairs
namespace Go.Proofs.Ytdpkdicciclobaa
open Go Go.Proofs.Ytdpkdicciclobaa.Sx
set_option linter.unusedVariables false
set_option linter.unusedSimpArgs false
def weirkeep_LeastPairs_B1 (g : Graph) : (Int × Nat) → Option (Ct (Int × Nat) (Bool)) := fun (x17, n18) =>
 if ((n18 : Nat) : Int) < g.n then
  (pairs_Part_F g 0 ((n18 : Nat) : Int)).bind fun (r26, r27) =>
  if r27 ≠ 0 then
   some (.ret false)
  else
   if x17 < 0 then
    ck (InI (((n18 : Nat) : Int) + 1)) <|
    some (.go (r26, (n18 + 1)))
   else
    if r26 < x17 then
     ck (InI (((n18 : Nat) : Int) + 1)) <|
     some (.go (r26, (n18 + 1)))
    else
     ck (InI (((n18 : Nat) : Int) + 1)) <|
     some (.go (x17, (n18 + 1)))
 else
  some (.brk (x17, n18))
def weirkeep_LeastPairs_F (g : Graph) : Option (Bool) :=
 (weirkeep_three_F).bind fun r2 =>
 (least_Of_F r2).bind fun (r5, r6, r7) =>
 if r7 ≠ 0 then
  some false
 else
  if r6 ≠ 3 then
   some false
  else
   if r5 ≠ 4 then
    some false
   else
    (least_Of_F g).bind fun (r12, r13, r14) =>
    if r14 ≠ 0 then
     some (decide (r13 = 0))
    else
     (loopC (weirkeep_LeastPairs_B1 g) 1000000 ((-1), 1)).bind fun q => match q with
     | .go (x22, n23) =>
      some (decide (r13 = x22))
     | .ret x => some x
def weirkeep_LeastPairs_P (out : Bool) (d : D) (H : List HL) : Prop := d = .v (.bool out) ∧ H = []
theorem weirkeep_LeastPairs_I (out : Bool) : IndepP (weirkeep_LeastPairs_P out) := IndepP.of (by rintro _ _ ⟨rfl, rfl⟩; exact ⟨inferInstance, inferInstance⟩)
set_option maxRecDepth 100000 in
set_option maxHeartbeats 4000000 in
theorem weirkeep_LeastPairs_spec (g : Graph) {out : Bool} (H : weirkeep_LeastPairs_F g = some out) : Does Try.prog 12 [.ag 2 (nth [.v (.int .i64 g.n), slD g.as])] [] (weirkeep_LeastPairs_P out) := by
 unfold weirkeep_LeastPairs_F at H
 refine Does.intro Try.func12 rfl Try.ntmps12 rfl fun w0 I0 => ?_
 refine GoC.seq ?_
 refine GoC.region ?_
 refine GoO.effB (ef_boxAg rfl rfl) (fun β1 => ?_)
 refine GoO.pure (ps_assign rfl rfl) ?_
 refine GoO.nil ?_
 refine GoK.code ?_
 refine GoC.seq ?_
 refine GoC.seq ?_
 refine GoC.region ?_
 have hb := bind_l H; clear H
 obtain ⟨r2, e4, H⟩ := hb
 refine GoO.effC (ef_call rfl (Take.nil _) (Take.nil _) (weirkeep_three_spec e4) (LendL.nil) rfl (weirkeep_three_I (r2))) (fun rr HH hp => ?_)
 obtain ⟨β3, rfl, rfl⟩ := hp
 have hb := bind_l H; clear H
 obtain ⟨⟨r5, r6, r7⟩, e8, H⟩ := hb
 refine GoO.effC (ef_call rfl (Take.nil _) (Take.cons _ _ _ _ _ Rem.p0 (Take.nil _)) (least_Of_spec r2 e8) (LendL.cons (Lend.agA ⟨⟨trivial, Lend.refl _ _⟩, Lend.all' At.p0 (by first | rfl | omega | (simp only [subl_length, cpl_length, List.length_set, List.length_append, List.length_cons, List.length_nil, List.length_replicate, row_len] <;> first | rfl | omega)) rfl⟩) (LendL.nil)) rfl (least_Of_I (r5, r6, r7))) (fun rr HH hp => ?_)
 obtain ⟨rfl, rfl⟩ := hp
 refine GoO.pure (ps_move rfl rfl) ?_
 refine GoO.pure (ps_extract rfl rfl rfl) ?_
 refine GoO.pure (ps_extract rfl rfl rfl) ?_
 refine GoO.pure (ps_extract rfl rfl rfl) ?_
 refine GoO.pure (ps_assign rfl rfl) ?_
 refine GoO.pure (ps_assign rfl rfl) ?_
 refine GoO.pure (ps_assign rfl rfl) ?_
 refine GoO.nil ?_
 refine GoK.code ?_
 refine GoC.seq ?_
 refine GoC.region ?_
 refine GoO.pure (ps_move rfl rfl) ?_
 refine GoO.pure (ps_neq rfl rfl rfl) ?_
 refine GoO.pure (ps_move rfl rfl) ?_
 refine GoO.guardE rfl rfl rfl rfl (fun h9 => ?_) (fun h9 => ?_)
 replace H := ite_f h9 H
 refine GoO.pure (ps_move rfl rfl) ?_
 refine GoO.guardT rfl rfl rfl ?_
 refine GoO.pure (ps_neq rfl rfl rfl) ?_
 refine GoO.pure (ps_pickF rfl rfl rfl) ?_
 refine GoO.pure (ps_move rfl rfl) ?_
 refine GoO.guardE rfl rfl rfl rfl (fun h10 => ?_) (fun h10 => ?_)
 replace H := ite_f h10 H
 refine GoO.pure (ps_move rfl rfl) ?_
 refine GoO.guardT rfl rfl rfl ?_
 refine GoO.pure (ps_neq rfl rfl rfl) ?_
 refine GoO.pure (ps_pickF rfl rfl rfl) ?_
 refine GoO.nil ?_
 refine GoK.code ?_
 refine GoC.condD rfl (fun h11 => ?_) (fun h11 => ?_)
 replace H := ite_t h11 H
 refine GoC.seq ?_
 refine GoC.region ?_
 refine GoO.pure (ps_assign rfl rfl) ?_
 refine GoO.nil ?_
 refine GoK.code ?_
 obtain rfl := Option.some.inj H
 exact GoC.retL (ds := [.v (.bool false)]) Try.results12 (ResL.cons (ResD.tmp rfl) (ResL.nil)) (Take.nil _) ⟨rfl, rfl⟩
 replace H := ite_f h11 H
 refine GoC.skip ?_
 refine GoK.code ?_
 refine GoC.seq ?_
 refine GoC.region ?_
 refine GoO.pure (ps_loadAg rfl At.p1 At.p1 Nat.zero_lt_one rfl rfl) ?_
 have hb := bind_l H; clear H
 obtain ⟨⟨r12, r13, r14⟩, e15, H⟩ := hb
 refine GoO.effC (ef_call rfl (Take.nil _) (Take.nil _) (least_Of_spec g e15) (LendL.cons (Lend.agA ⟨⟨trivial, Lend.refl _ _⟩, Lend.refl _ _⟩) (LendL.nil)) rfl (least_Of_I (r12, r13, r14))) (fun rr HH hp => ?_)
 obtain ⟨rfl, rfl⟩ := hp
 refine GoO.pure (ps_move rfl rfl) ?_
 refine GoO.pure (ps_extract rfl rfl rfl) ?_
 refine GoO.pure (ps_extract rfl rfl rfl) ?_
 refine GoO.pure (ps_extract rfl rfl rfl) ?_
 refine GoO.pure (ps_assign rfl rfl) ?_
 refine GoO.pure (ps_assign rfl rfl) ?_
 refine GoO.pure (ps_assign rfl rfl) ?_
 refine GoO.nil ?_
 refine GoK.code ?_
 refine GoC.seq ?_
 refine GoC.seq ?_
 refine GoC.region ?_
 refine GoO.pure (ps_move rfl rfl) ?_
 refine GoO.pure (ps_neq rfl rfl rfl) ?_
 refine GoO.nil ?_
 refine GoK.code ?_
 refine GoC.condD rfl (fun h16 => ?_) (fun h16 => ?_)
 replace H := ite_t h16 H
 refine GoC.seq ?_
 refine GoC.region ?_
 refine GoO.pure (ps_move rfl rfl) ?_
 refine GoO.pure (ps_eql rfl rfl rfl) ?_
 refine GoO.pure (ps_assign rfl rfl) ?_
 refine GoO.nil ?_
 refine GoK.code ?_
 obtain rfl := Option.some.inj H
 exact GoC.retL (ds := [.v (.bool (decide (r13 = 0)))]) Try.results12 (ResL.cons (ResD.tmp rfl) (ResL.nil)) (Take.nil _) ⟨rfl, rfl⟩
 replace H := ite_f h16 H
 refine GoC.skip ?_
 refine GoK.code ?_
 refine GoC.seq ?_
 refine GoC.region ?_
 refine GoO.pure (ps_assign rfl rfl) ?_
 refine GoO.nil ?_
 refine GoK.code ?_
 refine GoC.seq ?_
 refine GoC.seq ?_
 refine GoC.region ?_
 refine GoO.pure (ps_assign rfl rfl) ?_
 refine GoO.nil ?_
 refine GoK.code ?_
 have hb := bind_l H; clear H
 obtain ⟨q21, hl35, HK19⟩ := hb
 refine GoC.blockJ [(7, .v (.int .i64 r13))] [.one β3 39 3 (row r2.as), .one β1 33 2 (st1 (nth [.v (.int .i64 g.n), slD g.as]))] (fun v h => ∃ (x22 : Int) (n23 : Nat), q21 = .go (x22, n23) ∧ v = [(9, .v (.int .i64 x22))] ∧ h = []) ?_ ?_
 refine GoC.loopJ [(1, _), (7, _)] [.one β3 39 3 (row r2.as), .one β1 33 2 (st1 (nth [.v (.int .i64 g.n), slD g.as]))] (fun mQ v h => ∃ (x17 : Int) (n18 : Nat), loopC (weirkeep_LeastPairs_B1 g) mQ (x17, n18) = some q21 ∧ v = [(9, .v (.int .i64 x17)), (10, .v (.int .i64 ((n18 : Nat) : Int)))] ∧ h = []) 1000000 ⟨_, _, hl35, rfl, rfl⟩ (EnvD.eq rfl (EnvD.eq rfl (EnvD.eq rfl (EnvD.eq rfl (EnvD.nil))))) (TkD.cons _ _ _ _ _ Rem.p0 (HLe.refl _) (TkD.cons _ _ _ _ _ Rem.p0 (HLe.st ⟨⟨trivial, DLe.refl _⟩, DLe.refl _⟩) (TkD.nil _))) ?_
 rintro m24 v h ⟨x17, n18, hF20, rfl, rfl⟩
 obtain ⟨m24', rfl⟩ | rfl : (∃ x, m24 = x + 1) ∨ m24 = 0 := by cases m24 <;> simp
 case inr => cases hF20
 have hb := bind_l hF20; clear hF20
 obtain ⟨qrm24, H, hF20⟩ := hb
 refine GoC.seq ?_
 refine GoC.seq ?_
 refine GoC.region ?_
 refine GoO.pure (ps_move rfl rfl) ?_
 refine GoO.pure (ps_fieldAddr rfl rfl) ?_
 refine GoO.pure (ps_load rfl At.p1 At.p1 Nat.zero_lt_one rfl rfl) ?_
 refine GoO.pure (ps_lss rfl rfl rfl) ?_
 refine GoO.nil ?_
 refine GoK.code ?_
 refine GoC.condD rfl (fun h25 => ?_) (fun h25 => ?_)
 replace H := ite_t h25 H
 refine GoC.skip ?_
 refine GoK.code ?_
 refine GoC.seq ?_
 refine GoC.block ?_
 refine GoC.seq ?_
 refine GoC.region ?_
 refine GoO.pure (ps_loadAg rfl At.p1 At.p1 Nat.zero_lt_one rfl rfl) ?_
 refine GoO.pure (ps_move rfl rfl) ?_
 have hb := bind_l H; clear H
 obtain ⟨⟨r26, r27⟩, e28, H⟩ := hb
 refine GoO.effC (ef_call rfl (Take.nil _) (Take.nil _) (pairs_Part_spec g 0 ((n18 : Nat) : Int) e28) (LendL.cons (Lend.agA ⟨⟨trivial, Lend.refl _ _⟩, Lend.refl _ _⟩) (LendL.cons (Lend.refl _ _) (LendL.cons (Lend.refl _ _) (LendL.nil)))) rfl (pairs_Part_I (r26, r27))) (fun rr HH hp => ?_)
 obtain ⟨rfl, rfl⟩ := hp
 refine GoO.pure (ps_move rfl rfl) ?_
 refine GoO.pure (ps_extract rfl rfl rfl) ?_
 refine GoO.pure (ps_extract rfl rfl rfl) ?_
 refine GoO.pure (ps_assign rfl rfl) ?_
 refine GoO.pure (ps_assign rfl rfl) ?_
 refine GoO.nil ?_
 refine GoK.code ?_
 refine GoC.seq ?_
 refine GoC.seq ?_
 refine GoC.region ?_
 refine GoO.pure (ps_move rfl rfl) ?_
 refine GoO.pure (ps_neq rfl rfl rfl) ?_
 refine GoO.nil ?_
 refine GoK.code ?_
 refine GoC.condD rfl (fun h29 => ?_) (fun h29 => ?_)
 replace H := ite_t h29 H
 refine GoC.seq ?_
 refine GoC.region ?_
 refine GoO.pure (ps_assign rfl rfl) ?_
 refine GoO.nil ?_
 refine GoK.code ?_
 obtain rfl := Option.some.inj H
 obtain rfl := Option.some.inj hF20
 obtain rfl := Option.some.inj HK19
 exact GoC.retL (ds := [.v (.bool false)]) Try.results12 (ResL.cons (ResD.tmp rfl) (ResL.nil)) (Take.nil _) ⟨rfl, rfl⟩
 replace H := ite_f h29 H
 refine GoC.skip ?_
 refine GoK.code ?_
 refine GoC.seq ?_
 refine GoC.region ?_
 refine GoO.pure (ps_move rfl rfl) ?_
 refine GoO.pure (ps_lss rfl rfl rfl) ?_
 refine GoO.pure (ps_move rfl rfl) ?_
 refine GoO.guardE rfl rfl rfl rfl (fun h30 => ?_) (fun h30 => ?_)
 replace H := ite_f h30 H
 refine GoO.pure (ps_move rfl rfl) ?_
 refine GoO.guardT rfl rfl rfl ?_
 refine GoO.pure (ps_move rfl rfl) ?_
 refine GoO.guardT rfl rfl rfl ?_
 refine GoO.pure (ps_lss rfl rfl rfl) ?_
 refine GoO.pure (ps_pickF rfl rfl rfl) ?_
 refine GoO.nil ?_
 refine GoK.code ?_
 refine GoC.condD rfl (fun h31 => ?_) (fun h31 => ?_)
 replace H := ite_t h31 H
 refine GoC.region ?_
 refine GoO.pure (ps_move rfl rfl) ?_
 refine GoO.pure (ps_assign rfl rfl) ?_
 refine GoO.nil ?_
 refine GoK.blk ?_
 refine GoK.code ?_
 refine GoC.region ?_
 refine GoO.pure (ps_move rfl rfl) ?_
 have c32 := ck_l H; replace H := ck_r H
 refine GoO.pure (ps_add rfl rfl rfl c32) ?_
 refine GoO.pure (ps_assign rfl rfl) ?_
 refine GoO.nil ?_
 obtain rfl := Option.some.inj H
 exact GoK.againJ m24' (by omega) ⟨_, _, hF20, rfl, rfl⟩ (EnvD.eq rfl (EnvD.eq rfl (EnvD.eq rfl (EnvD.eq rfl (EnvD.nil))))) (TkD.cons _ _ _ _ _ Rem.p0 (HLe.refl _) (TkD.cons _ _ _ _ _ Rem.p0 (HLe.st ⟨⟨trivial, DLe.refl _⟩, DLe.refl _⟩) (TkD.nil _)))
 replace H := ite_f h31 H
 refine GoC.skip ?_
 refine GoK.blk ?_
 refine GoK.code ?_
 refine GoC.region ?_
 refine GoO.pure (ps_move rfl rfl) ?_
 have c33 := ck_l H; replace H := ck_r H
 refine GoO.pure (ps_add rfl rfl rfl c33) ?_
 refine GoO.pure (ps_assign rfl rfl) ?_
 refine GoO.nil ?_
 obtain rfl := Option.some.inj H
 exact GoK.againJ m24' (by omega) ⟨_, _, hF20, rfl, rfl⟩ (EnvD.eq rfl (EnvD.eq rfl (EnvD.eq rfl (EnvD.eq rfl (EnvD.nil))))) (TkD.cons _ _ _ _ _ Rem.p0 (HLe.refl _) (TkD.cons _ _ _ _ _ Rem.p0 (HLe.st ⟨⟨trivial, DLe.refl _⟩, DLe.refl _⟩) (TkD.nil _)))
 replace H := ite_t h30 H
 refine GoO.guardF rfl rfl rfl rfl ?_
 refine GoO.guardF rfl rfl rfl rfl ?_
 refine GoO.pure (ps_pickT rfl rfl rfl) ?_
 refine GoO.nil ?_
 refine GoK.code ?_
 refine GoC.condT rfl ?_
 refine GoC.region ?_
 refine GoO.pure (ps_move rfl rfl) ?_
 refine GoO.pure (ps_assign rfl rfl) ?_
 refine GoO.nil ?_
 refine GoK.blk ?_
 refine GoK.code ?_
 refine GoC.region ?_
 refine GoO.pure (ps_move rfl rfl) ?_
 have c34 := ck_l H; replace H := ck_r H
 refine GoO.pure (ps_add rfl rfl rfl c34) ?_
 refine GoO.pure (ps_assign rfl rfl) ?_
 refine GoO.nil ?_
 obtain rfl := Option.some.inj H
 exact GoK.againJ m24' (by omega) ⟨_, _, hF20, rfl, rfl⟩ (EnvD.eq rfl (EnvD.eq rfl (EnvD.eq rfl (EnvD.eq rfl (EnvD.nil))))) (TkD.cons _ _ _ _ _ Rem.p0 (HLe.refl _) (TkD.cons _ _ _ _ _ Rem.p0 (HLe.st ⟨⟨trivial, DLe.refl _⟩, DLe.refl _⟩) (TkD.nil _)))
 replace H := ite_f h25 H
 refine GoC.exit rfl ?_
 obtain rfl := Option.some.inj H
 obtain rfl := Option.some.inj hF20
 exact GoK.meet ⟨_, _, rfl, rfl, rfl⟩ (EnvD.eq rfl (EnvD.eq rfl (EnvD.nil))) (TkD.cons _ _ _ _ _ Rem.p0 (HLe.refl _) (TkD.cons _ _ _ _ _ Rem.p0 (HLe.st ⟨⟨trivial, DLe.refl _⟩, DLe.refl _⟩) (TkD.nil _)))
 rintro v h ⟨x22, n23, rfl, rfl, rfl⟩
 have H := HK19; clear HK19
 refine GoK.code ?_
 refine GoC.seq ?_
 refine GoC.region ?_
 refine GoO.pure (ps_move rfl rfl) ?_
 refine GoO.pure (ps_move rfl rfl) ?_
 refine GoO.pure (ps_eql rfl rfl rfl) ?_
 refine GoO.pure (ps_assign rfl rfl) ?_
 refine GoO.nil ?_
 refine GoK.code ?_
 obtain rfl := Option.some.inj H
 exact GoC.retL (ds := [.v (.bool (decide (r13 = x22)))]) Try.results12 (ResL.cons (ResD.tmp rfl) (ResL.nil)) (Take.nil _) ⟨rfl, rfl⟩
 replace H := ite_t h10 H
 refine GoO.guardF rfl rfl rfl rfl ?_
 refine GoO.pure (ps_pickT rfl rfl rfl) ?_
 refine GoO.nil ?_
 refine GoK.code ?_
 refine GoC.condT rfl ?_
 refine GoC.seq ?_
 refine GoC.region ?_
 refine GoO.pure (ps_assign rfl rfl) ?_
 refine GoO.nil ?_
 refine GoK.code ?_
 obtain rfl := Option.some.inj H
 exact GoC.retL (ds := [.v (.bool false)]) Try.results12 (ResL.cons (ResD.tmp rfl) (ResL.nil)) (Take.nil _) ⟨rfl, rfl⟩
 replace H := ite_t h9 H
 refine GoO.guardF rfl rfl rfl rfl ?_
 refine GoO.pure (ps_pickT rfl rfl rfl) ?_
 refine GoO.pure (ps_move rfl rfl) ?_
 refine GoO.guardF rfl rfl rfl rfl ?_
 refine GoO.guardF rfl rfl rfl rfl ?_
 refine GoO.pure (ps_pickT rfl rfl rfl) ?_
 refine GoO.nil ?_
 refine GoK.code ?_
 refine GoC.condT rfl ?_
 refine GoC.seq ?_
 refine GoC.region ?_
 refine GoO.pure (ps_assign rfl rfl) ?_
 refine GoO.nil ?_
 refine GoK.code ?_
 obtain rfl := Option.some.inj H
 exact GoC.retL (ds := [.v (.bool false)]) Try.results12 (ResL.cons (ResD.tmp rfl) (ResL.nil)) (Take.nil _) ⟨rfl, rfl⟩

end Go.Proofs.Ytdpkdicciclobaa
