/- The functions weirkeep.ProofSound, told as plain functions, and that the code does as they say. -/
import Derived.Test.YtdklbcgfjleagaaTys
import Derived.Test.YtdklbcgfjleagaaDat
import Derived.Test.YtdklbcgfjleagaaGcut
import Derived.Test.YtdklbcgfjleagaaGflow
import Derived.Test.YtdklbcgfjleagaaGkeep
import Derived.Test.YtdklbcgfjleagaaGmost
import Derived.Test.YtdklbcgfjleagaaGproof
namespace Go.Proofs.Ytdklbcgfjleagaa
open Go Go.Proofs.Ytdklbcgfjleagaa.Sx
set_option linter.unusedVariables false
set_option linter.unusedSimpArgs false
def weirkeep_ProofSound_F (n : Net) (p : Proof) (f : (List Int)) (side : Int) : Option (Bool) :=
 (weirkeep_proofs_F).bind fun r3 =>
 if (!r3) = true then
  some false
 else
  (proof_Check_F n p).bind fun (r6, r7) =>
  if r7 ≠ 0 then
   if r7 = 0 then
    some true
   else
    some (!r6)
  else
   if (!r6) = true then
    if r7 = 0 then
     some true
    else
     some (!r6)
   else
    (flow_Value_F n f).bind fun (r12, r13) =>
    (cut_Cap_F n side).bind fun (r15, r16) =>
    (most_Of_F n).bind fun (r18, r20, r21) =>
    if r21 = 0 then
     if r20 = p.value then
      if r13 ≠ 0 then
       if r16 ≠ 0 then
        some true
       else
        some (decide (p.value ≤ r15))
      else
       if r12 ≤ p.value then
        if r16 ≠ 0 then
         some true
        else
         some (decide (p.value ≤ r15))
       else
        some false
     else
      some false
    else
     some false
def weirkeep_ProofSound_P (out : Bool) (d : D) (H : List HL) : Prop := d = .v (.bool out) ∧ H = []
theorem weirkeep_ProofSound_I (out : Bool) : IndepP (weirkeep_ProofSound_P out) := IndepP.of (by rintro _ _ ⟨rfl, rfl⟩; exact ⟨inferInstance, inferInstance⟩)
set_option maxRecDepth 100000 in
set_option maxHeartbeats 4000000 in
theorem weirkeep_ProofSound_spec (n : Net) (p : Proof) (f : (List Int)) (side : Int) {out : Bool} (H : weirkeep_ProofSound_F n p f side = some out) : Does Try.prog 11 [.ag 4 (nth [.v (.int .i64 n.n), .v (.int .i64 n.s), .v (.int .i64 n.t), slD n.as]), .ag 3 (nth [.v (.int .i64 p.value), slD p.flow, .v (.int .u16 p.side)]), slD f, .v (.int .u16 side)] [] (weirkeep_ProofSound_P out) := by
 unfold weirkeep_ProofSound_F at H
 refine Does.intro Try.func11 rfl Try.ntmps11 rfl fun w0 I0 => ?_
 refine GoC.seq ?_
 refine GoC.region ?_
 refine GoO.effB (ef_boxAg rfl rfl) (fun β1 => ?_)
 refine GoO.effB (ef_boxAg rfl rfl) (fun β2 => ?_)
 refine GoO.pure (ps_assign rfl rfl) ?_
 refine GoO.nil ?_
 refine GoK.code ?_
 refine GoC.seq ?_
 refine GoC.seq ?_
 refine GoC.region ?_
 have hb := bind_l H; clear H
 obtain ⟨r3, e4, H⟩ := hb
 refine GoO.effC (ef_call rfl (Take.nil _) (Take.nil _) (weirkeep_proofs_spec e4) (LendL.nil) rfl (weirkeep_proofs_I (r3))) (fun rr HH hp => ?_)
 obtain ⟨rfl, rfl⟩ := hp
 refine GoO.pure (ps_not rfl rfl) ?_
 refine GoO.nil ?_
 refine GoK.code ?_
 refine GoC.cond rfl (fun h5 => ?_) (fun h5 => ?_)
 replace H := itb_t h5 H
 refine GoC.seq ?_
 refine GoC.region ?_
 refine GoO.pure (ps_assign rfl rfl) ?_
 refine GoO.nil ?_
 refine GoK.code ?_
 obtain rfl := Option.some.inj H
 exact GoC.retL (ds := [.v (.bool false)]) Try.results11 (ResL.cons (ResD.tmp rfl) (ResL.nil)) (Take.nil _) ⟨rfl, rfl⟩
 replace H := itb_f h5 H
 refine GoC.skip ?_
 refine GoK.code ?_
 refine GoC.seq ?_
 refine GoC.region ?_
 refine GoO.pure (ps_loadAg rfl At.p1 At.p1 Nat.zero_lt_one rfl rfl) ?_
 refine GoO.pure (ps_loadAg rfl At.p0 At.p0 Nat.zero_lt_one rfl rfl) ?_
 have hb := bind_l H; clear H
 obtain ⟨⟨r6, r7⟩, e8, H⟩ := hb
 refine GoO.effC (ef_call rfl (Take.nil _) (Take.nil _) (proof_Check_spec n p e8) (LendL.cons (Lend.agA ⟨⟨⟨⟨trivial, Lend.refl _ _⟩, Lend.refl _ _⟩, Lend.refl _ _⟩, Lend.refl _ _⟩) (LendL.cons (Lend.agA ⟨⟨⟨trivial, Lend.refl _ _⟩, Lend.refl _ _⟩, Lend.refl _ _⟩) (LendL.nil))) rfl (proof_Check_I (r6, r7))) (fun rr HH hp => ?_)
 obtain ⟨rfl, rfl⟩ := hp
 refine GoO.pure (ps_move rfl rfl) ?_
 refine GoO.pure (ps_extract rfl rfl rfl) ?_
 refine GoO.pure (ps_extract rfl rfl rfl) ?_
 refine GoO.pure (ps_assign rfl rfl) ?_
 refine GoO.pure (ps_assign rfl rfl) ?_
 refine GoO.nil ?_
 refine GoK.code ?_
 refine GoC.seq ?_
 refine GoC.seq ?_
 refine GoC.region ?_
 refine GoO.pure (ps_move rfl rfl) ?_
 refine GoO.pure (ps_neq rfl rfl rfl) ?_
 refine GoO.pure (ps_move rfl rfl) ?_
 refine GoO.guardE rfl rfl rfl rfl (fun h9 => ?_) (fun h9 => ?_)
 replace H := ite_f h9 H
 refine GoO.pure (ps_move rfl rfl) ?_
 refine GoO.guardT rfl rfl rfl ?_
 refine GoO.pure (ps_not rfl rfl) ?_
 refine GoO.pure (ps_pickF rfl rfl rfl) ?_
 refine GoO.nil ?_
 refine GoK.code ?_
 refine GoC.cond rfl (fun h10 => ?_) (fun h10 => ?_)
 replace H := itb_t h10 H
 refine GoC.seq ?_
 refine GoC.region ?_
 refine GoO.pure (ps_move rfl rfl) ?_
 refine GoO.pure (ps_eql rfl rfl rfl) ?_
 refine GoO.pure (ps_move rfl rfl) ?_
 refine GoO.guardE rfl rfl rfl rfl (fun h11 => ?_) (fun h11 => ?_)
 replace H := ite_f h11 H
 refine GoO.pure (ps_move rfl rfl) ?_
 refine GoO.guardT rfl rfl rfl ?_
 refine GoO.pure (ps_not rfl rfl) ?_
 refine GoO.pure (ps_pickF rfl rfl rfl) ?_
 refine GoO.pure (ps_assign rfl rfl) ?_
 refine GoO.nil ?_
 refine GoK.code ?_
 obtain rfl := Option.some.inj H
 exact GoC.retL (ds := [.v (.bool (!r6))]) Try.results11 (ResL.cons (ResD.tmp rfl) (ResL.nil)) (Take.nil _) ⟨rfl, rfl⟩
 replace H := ite_t h11 H
 refine GoO.guardF rfl rfl rfl rfl ?_
 refine GoO.pure (ps_pickT rfl rfl rfl) ?_
 refine GoO.pure (ps_assign rfl rfl) ?_
 refine GoO.nil ?_
 refine GoK.code ?_
 obtain rfl := Option.some.inj H
 exact GoC.retL (ds := [.v (.bool true)]) Try.results11 (ResL.cons (ResD.tmp rfl) (ResL.nil)) (Take.nil _) ⟨rfl, rfl⟩
 replace H := itb_f h10 H
 refine GoC.skip ?_
 refine GoK.code ?_
 refine GoC.seq ?_
 refine GoC.region ?_
 refine GoO.pure (ps_loadAg rfl At.p1 At.p1 Nat.zero_lt_one rfl rfl) ?_
 refine GoO.pure (ps_move rfl rfl) ?_
 have hb := bind_l H; clear H
 obtain ⟨⟨r12, r13⟩, e14, H⟩ := hb
 refine GoO.effC (ef_call rfl (Take.nil _) (Take.nil _) (flow_Value_spec n f e14) (LendL.cons (Lend.agA ⟨⟨⟨⟨trivial, Lend.refl _ _⟩, Lend.refl _ _⟩, Lend.refl _ _⟩, Lend.refl _ _⟩) (LendL.cons (Lend.refl _ _) (LendL.nil))) rfl (flow_Value_I (r12, r13))) (fun rr HH hp => ?_)
 obtain ⟨rfl, rfl⟩ := hp
 refine GoO.pure (ps_move rfl rfl) ?_
 refine GoO.pure (ps_extract rfl rfl rfl) ?_
 refine GoO.pure (ps_extract rfl rfl rfl) ?_
 refine GoO.pure (ps_assign rfl rfl) ?_
 refine GoO.pure (ps_assign rfl rfl) ?_
 refine GoO.nil ?_
 refine GoK.code ?_
 refine GoC.seq ?_
 refine GoC.region ?_
 refine GoO.pure (ps_loadAg rfl At.p1 At.p1 Nat.zero_lt_one rfl rfl) ?_
 refine GoO.pure (ps_move rfl rfl) ?_
 have hb := bind_l H; clear H
 obtain ⟨⟨r15, r16⟩, e17, H⟩ := hb
 refine GoO.effC (ef_call rfl (Take.nil _) (Take.nil _) (cut_Cap_spec n side e17) (LendL.cons (Lend.agA ⟨⟨⟨⟨trivial, Lend.refl _ _⟩, Lend.refl _ _⟩, Lend.refl _ _⟩, Lend.refl _ _⟩) (LendL.cons (Lend.refl _ _) (LendL.nil))) rfl (cut_Cap_I (r15, r16))) (fun rr HH hp => ?_)
 obtain ⟨rfl, rfl⟩ := hp
 refine GoO.pure (ps_move rfl rfl) ?_
 refine GoO.pure (ps_extract rfl rfl rfl) ?_
 refine GoO.pure (ps_extract rfl rfl rfl) ?_
 refine GoO.pure (ps_assign rfl rfl) ?_
 refine GoO.pure (ps_assign rfl rfl) ?_
 refine GoO.nil ?_
 refine GoK.code ?_
 refine GoC.seq ?_
 refine GoC.region ?_
 refine GoO.pure (ps_loadAg rfl At.p1 At.p1 Nat.zero_lt_one rfl rfl) ?_
 have hb := bind_l H; clear H
 obtain ⟨⟨r18, r20, r21⟩, e22, H⟩ := hb
 refine GoO.effC (ef_call rfl (Take.nil _) (Take.nil _) (most_Of_spec n e22) (LendL.cons (Lend.agA ⟨⟨⟨⟨trivial, Lend.refl _ _⟩, Lend.refl _ _⟩, Lend.refl _ _⟩, Lend.refl _ _⟩) (LendL.nil)) rfl (most_Of_I (r18, r20, r21))) (fun rr HH hp => ?_)
 obtain ⟨β19, rfl, rfl⟩ := hp
 refine GoO.pure (ps_move rfl rfl) ?_
 refine GoO.pure (ps_extract rfl rfl rfl) ?_
 refine GoO.pure (ps_extract rfl rfl rfl) ?_
 refine GoO.pure (ps_extract rfl rfl rfl) ?_
 refine GoO.pure (ps_assign rfl rfl) ?_
 refine GoO.pure (ps_assign rfl rfl) ?_
 refine GoO.pure (ps_assign rfl rfl) ?_
 refine GoO.nil ?_
 refine GoK.code ?_
 refine GoC.seq ?_
 refine GoC.region ?_
 refine GoO.pure (ps_move rfl rfl) ?_
 refine GoO.pure (ps_eql rfl rfl rfl) ?_
 refine GoO.pure (ps_move rfl rfl) ?_
 refine GoO.guardD rfl rfl rfl rfl (fun h23 => ?_) (fun h23 => ?_)
 replace H := ite_t h23 H
 refine GoO.pure (ps_move rfl rfl) ?_
 refine GoO.guardT rfl rfl rfl ?_
 refine GoO.pure (ps_fieldAddr rfl rfl) ?_
 refine GoO.guardT rfl rfl rfl ?_
 refine GoO.pure (ps_load rfl At.p1 At.p1 Nat.zero_lt_one rfl rfl) ?_
 refine GoO.guardT rfl rfl rfl ?_
 refine GoO.pure (ps_eql rfl rfl rfl) ?_
 refine GoO.pure (ps_pickT rfl rfl rfl) ?_
 refine GoO.pure (ps_move rfl rfl) ?_
 refine GoO.guardD rfl rfl rfl rfl (fun h24 => ?_) (fun h24 => ?_)
 replace H := ite_t h24 H
 refine GoO.pure (ps_move rfl rfl) ?_
 refine GoO.guardT rfl rfl rfl ?_
 refine GoO.pure (ps_neq rfl rfl rfl) ?_
 refine GoO.guardT rfl rfl rfl ?_
 refine GoO.pure (ps_move rfl rfl) ?_
 refine GoO.guardE rfl rfl rfl rfl (fun h25 => ?_) (fun h25 => ?_)
 replace H := ite_f h25 H
 refine GoO.pure (ps_move rfl rfl) ?_
 refine GoO.guardT rfl rfl rfl ?_
 refine GoO.pure (ps_fieldAddr rfl rfl) ?_
 refine GoO.guardT rfl rfl rfl ?_
 refine GoO.pure (ps_load rfl At.p1 At.p1 Nat.zero_lt_one rfl rfl) ?_
 refine GoO.guardT rfl rfl rfl ?_
 refine GoO.pure (ps_leq rfl rfl rfl) ?_
 refine GoO.guardT rfl rfl rfl ?_
 refine GoO.pure (ps_pickF rfl rfl rfl) ?_
 refine GoO.pure (ps_pickT rfl rfl rfl) ?_
 refine GoO.pure (ps_move rfl rfl) ?_
 refine GoO.guardD rfl rfl rfl rfl (fun h26 => ?_) (fun h26 => ?_)
 replace H := ite_t h26 H
 refine GoO.pure (ps_move rfl rfl) ?_
 refine GoO.guardT rfl rfl rfl ?_
 refine GoO.pure (ps_neq rfl rfl rfl) ?_
 refine GoO.guardT rfl rfl rfl ?_
 refine GoO.pure (ps_move rfl rfl) ?_
 refine GoO.guardE rfl rfl rfl rfl (fun h27 => ?_) (fun h27 => ?_)
 replace H := ite_f h27 H
 refine GoO.pure (ps_move rfl rfl) ?_
 refine GoO.guardT rfl rfl rfl ?_
 refine GoO.pure (ps_fieldAddr rfl rfl) ?_
 refine GoO.guardT rfl rfl rfl ?_
 refine GoO.pure (ps_load rfl At.p1 At.p1 Nat.zero_lt_one rfl rfl) ?_
 refine GoO.guardT rfl rfl rfl ?_
 refine GoO.pure (ps_geq rfl rfl rfl) ?_
 refine GoO.guardT rfl rfl rfl ?_
 refine GoO.pure (ps_pickF rfl rfl rfl) ?_
 refine GoO.pure (ps_pickT rfl rfl rfl) ?_
 refine GoO.pure (ps_assign rfl rfl) ?_
 refine GoO.nil ?_
 refine GoK.code ?_
 obtain rfl := Option.some.inj H
 exact GoC.retL (ds := [.v (.bool (decide (p.value ≤ r15)))]) Try.results11 (ResL.cons (ResD.tmp rfl) (ResL.nil)) (Take.nil _) ⟨rfl, rfl⟩
 replace H := ite_t h27 H
 refine GoO.guardF rfl rfl rfl rfl ?_
 refine GoO.guardF rfl rfl rfl rfl ?_
 refine GoO.guardF rfl rfl rfl rfl ?_
 refine GoO.guardT rfl rfl rfl ?_
 refine GoO.pure (ps_pickT rfl rfl rfl) ?_
 refine GoO.pure (ps_pickT rfl rfl rfl) ?_
 refine GoO.pure (ps_assign rfl rfl) ?_
 refine GoO.nil ?_
 refine GoK.code ?_
 obtain rfl := Option.some.inj H
 exact GoC.retL (ds := [.v (.bool true)]) Try.results11 (ResL.cons (ResD.tmp rfl) (ResL.nil)) (Take.nil _) ⟨rfl, rfl⟩
 replace H := ite_f h26 H
 refine GoO.guardF rfl rfl rfl rfl ?_
 refine GoO.guardF rfl rfl rfl rfl ?_
 refine GoO.guardU rfl rfl rfl rfl ?_
 refine GoO.guardU rfl rfl rfl rfl ?_
 refine GoO.guardU rfl rfl rfl rfl ?_
 refine GoO.guardU rfl rfl rfl rfl ?_
 refine GoO.guardF rfl rfl rfl rfl ?_
 refine GoO.pure (ps_pickF rfl rfl rfl) ?_
 refine GoO.pure (ps_assign rfl rfl) ?_
 refine GoO.nil ?_
 refine GoK.code ?_
 obtain rfl := Option.some.inj H
 exact GoC.retL (ds := [.v (.bool false)]) Try.results11 (ResL.cons (ResD.tmp rfl) (ResL.nil)) (Take.nil _) ⟨rfl, rfl⟩
 replace H := ite_t h25 H
 refine GoO.guardF rfl rfl rfl rfl ?_
 refine GoO.guardF rfl rfl rfl rfl ?_
 refine GoO.guardF rfl rfl rfl rfl ?_
 refine GoO.guardT rfl rfl rfl ?_
 refine GoO.pure (ps_pickT rfl rfl rfl) ?_
 refine GoO.pure (ps_pickT rfl rfl rfl) ?_
 refine GoO.pure (ps_move rfl rfl) ?_
 refine GoO.guardT rfl rfl rfl ?_
 refine GoO.pure (ps_move rfl rfl) ?_
 refine GoO.guardT rfl rfl rfl ?_
 refine GoO.pure (ps_neq rfl rfl rfl) ?_
 refine GoO.guardT rfl rfl rfl ?_
 refine GoO.pure (ps_move rfl rfl) ?_
 refine GoO.guardE rfl rfl rfl rfl (fun h28 => ?_) (fun h28 => ?_)
 replace H := ite_f h28 H
 refine GoO.pure (ps_move rfl rfl) ?_
 refine GoO.guardT rfl rfl rfl ?_
 refine GoO.pure (ps_fieldAddr rfl rfl) ?_
 refine GoO.guardT rfl rfl rfl ?_
 refine GoO.pure (ps_load rfl At.p1 At.p1 Nat.zero_lt_one rfl rfl) ?_
 refine GoO.guardT rfl rfl rfl ?_
 refine GoO.pure (ps_geq rfl rfl rfl) ?_
 refine GoO.guardT rfl rfl rfl ?_
 refine GoO.pure (ps_pickF rfl rfl rfl) ?_
 refine GoO.pure (ps_pickT rfl rfl rfl) ?_
 refine GoO.pure (ps_assign rfl rfl) ?_
 refine GoO.nil ?_
 refine GoK.code ?_
 obtain rfl := Option.some.inj H
 exact GoC.retL (ds := [.v (.bool (decide (p.value ≤ r15)))]) Try.results11 (ResL.cons (ResD.tmp rfl) (ResL.nil)) (Take.nil _) ⟨rfl, rfl⟩
 replace H := ite_t h28 H
 refine GoO.guardF rfl rfl rfl rfl ?_
 refine GoO.guardF rfl rfl rfl rfl ?_
 refine GoO.guardF rfl rfl rfl rfl ?_
 refine GoO.guardT rfl rfl rfl ?_
 refine GoO.pure (ps_pickT rfl rfl rfl) ?_
 refine GoO.pure (ps_pickT rfl rfl rfl) ?_
 refine GoO.pure (ps_assign rfl rfl) ?_
 refine GoO.nil ?_
 refine GoK.code ?_
 obtain rfl := Option.some.inj H
 exact GoC.retL (ds := [.v (.bool true)]) Try.results11 (ResL.cons (ResD.tmp rfl) (ResL.nil)) (Take.nil _) ⟨rfl, rfl⟩
 replace H := ite_f h24 H
 refine GoO.guardF rfl rfl rfl rfl ?_
 refine GoO.guardF rfl rfl rfl rfl ?_
 refine GoO.guardU rfl rfl rfl rfl ?_
 refine GoO.guardU rfl rfl rfl rfl ?_
 refine GoO.guardU rfl rfl rfl rfl ?_
 refine GoO.guardU rfl rfl rfl rfl ?_
 refine GoO.guardF rfl rfl rfl rfl ?_
 refine GoO.pure (ps_pickF rfl rfl rfl) ?_
 refine GoO.pure (ps_move rfl rfl) ?_
 refine GoO.guardF rfl rfl rfl rfl ?_
 refine GoO.guardF rfl rfl rfl rfl ?_
 refine GoO.guardF rfl rfl rfl rfl ?_
 refine GoO.guardU rfl rfl rfl rfl ?_
 refine GoO.guardU rfl rfl rfl rfl ?_
 refine GoO.guardU rfl rfl rfl rfl ?_
 refine GoO.guardU rfl rfl rfl rfl ?_
 refine GoO.guardF rfl rfl rfl rfl ?_
 refine GoO.pure (ps_pickF rfl rfl rfl) ?_
 refine GoO.pure (ps_assign rfl rfl) ?_
 refine GoO.nil ?_
 refine GoK.code ?_
 obtain rfl := Option.some.inj H
 exact GoC.retL (ds := [.v (.bool false)]) Try.results11 (ResL.cons (ResD.tmp rfl) (ResL.nil)) (Take.nil _) ⟨rfl, rfl⟩
 replace H := ite_f h23 H
 refine GoO.guardF rfl rfl rfl rfl ?_
 refine GoO.guardF rfl rfl rfl rfl ?_
 refine GoO.guardF rfl rfl rfl rfl ?_
 refine GoO.pure (ps_pickF rfl rfl rfl) ?_
 refine GoO.pure (ps_move rfl rfl) ?_
 refine GoO.guardF rfl rfl rfl rfl ?_
 refine GoO.guardF rfl rfl rfl rfl ?_
 refine GoO.guardF rfl rfl rfl rfl ?_
 refine GoO.guardU rfl rfl rfl rfl ?_
 refine GoO.guardU rfl rfl rfl rfl ?_
 refine GoO.guardU rfl rfl rfl rfl ?_
 refine GoO.guardU rfl rfl rfl rfl ?_
 refine GoO.guardF rfl rfl rfl rfl ?_
 refine GoO.pure (ps_pickF rfl rfl rfl) ?_
 refine GoO.pure (ps_move rfl rfl) ?_
 refine GoO.guardF rfl rfl rfl rfl ?_
 refine GoO.guardF rfl rfl rfl rfl ?_
 refine GoO.guardF rfl rfl rfl rfl ?_
 refine GoO.guardU rfl rfl rfl rfl ?_
 refine GoO.guardU rfl rfl rfl rfl ?_
 refine GoO.guardU rfl rfl rfl rfl ?_
 refine GoO.guardU rfl rfl rfl rfl ?_
 refine GoO.guardF rfl rfl rfl rfl ?_
 refine GoO.pure (ps_pickF rfl rfl rfl) ?_
 refine GoO.pure (ps_assign rfl rfl) ?_
 refine GoO.nil ?_
 refine GoK.code ?_
 obtain rfl := Option.some.inj H
 exact GoC.retL (ds := [.v (.bool false)]) Try.results11 (ResL.cons (ResD.tmp rfl) (ResL.nil)) (Take.nil _) ⟨rfl, rfl⟩
 replace H := ite_t h9 H
 refine GoO.guardF rfl rfl rfl rfl ?_
 refine GoO.pure (ps_pickT rfl rfl rfl) ?_
 refine GoO.nil ?_
 refine GoK.code ?_
 refine GoC.condT rfl ?_
 refine GoC.seq ?_
 refine GoC.region ?_
 refine GoO.pure (ps_move rfl rfl) ?_
 refine GoO.pure (ps_eql rfl rfl rfl) ?_
 refine GoO.pure (ps_move rfl rfl) ?_
 refine GoO.guardE rfl rfl rfl rfl (fun h29 => ?_) (fun h29 => ?_)
 replace H := ite_f h29 H
 refine GoO.pure (ps_move rfl rfl) ?_
 refine GoO.guardT rfl rfl rfl ?_
 refine GoO.pure (ps_not rfl rfl) ?_
 refine GoO.pure (ps_pickF rfl rfl rfl) ?_
 refine GoO.pure (ps_assign rfl rfl) ?_
 refine GoO.nil ?_
 refine GoK.code ?_
 obtain rfl := Option.some.inj H
 exact GoC.retL (ds := [.v (.bool (!r6))]) Try.results11 (ResL.cons (ResD.tmp rfl) (ResL.nil)) (Take.nil _) ⟨rfl, rfl⟩
 replace H := ite_t h29 H
 refine GoO.guardF rfl rfl rfl rfl ?_
 refine GoO.pure (ps_pickT rfl rfl rfl) ?_
 refine GoO.pure (ps_assign rfl rfl) ?_
 refine GoO.nil ?_
 refine GoK.code ?_
 obtain rfl := Option.some.inj H
 exact GoC.retL (ds := [.v (.bool true)]) Try.results11 (ResL.cons (ResD.tmp rfl) (ResL.nil)) (Take.nil _) ⟨rfl, rfl⟩

end Go.Proofs.Ytdklbcgfjleagaa
