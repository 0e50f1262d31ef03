/- The functions match.Check, match.mates, match.Most, told as plain functions, and that the code does as they say. -/
import Derived.Test.YtlpelkfcmeapiaaTys
import Derived.Test.YtlpelkfcmeapiaaDat
import Derived.Test.YtlpelkfcmeapiaaGslices
import Derived.Test.YtlpelkfcmeapiaaGsort
namespace Go.Proofs.Ytlpelkfcmeapiaa
open Go Go.Proofs.Ytlpelkfcmeapiaa.Sx
set_option linter.unusedVariables false
set_option linter.unusedSimpArgs false
def match_Check_B1 (m : Int) (n : Int) (l : (List Arc)) : Nat → Unit → Option (Ct (Unit) (Int)) := fun k10 _ =>
 if ((l.getD k10 El.d).f) < 0 then
  some (.ret 4)
 else
  if m ≤ ((l.getD k10 El.d).f) then
   some (.ret 4)
  else
   if ((l.getD k10 El.d).t) < 0 then
    some (.ret 4)
   else
    if n ≤ ((l.getD k10 El.d).t) then
     some (.ret 4)
    else
     some (.go ())
def match_Check_F (m : Int) (n : Int) (l : (List Arc)) : Option (Int) :=
 if m < 0 then
  some 1
 else
  if 12 < m then
   some 1
  else
   if n < 0 then
    some 1
   else
    if 12 < n then
     some 1
    else
     if 60 < ((l.length : Nat) : Int) then
      some 2
     else
      (forC (match_Check_B1 m n l) l.length 0 ()).bind fun q => match q with
      | .go _ =>
       some 0
      | .ret x => some x
def match_Check_P (out : Int) (d : D) (H : List HL) : Prop := d = .v (.int .i64 out) ∧ H = []
theorem match_Check_I (out : Int) : IndepP (match_Check_P out) := IndepP.of (by rintro _ _ ⟨rfl, rfl⟩; exact ⟨inferInstance, inferInstance⟩)
set_option maxRecDepth 100000 in
set_option maxHeartbeats 4000000 in
theorem match_Check_spec (m : Int) (n : Int) (l : (List Arc)) {out : Int} (H : match_Check_F m n l = some out) : Does Try.prog 35 [.v (.int .i64 m), .v (.int .i64 n), slD l] [] (match_Check_P out) := by
 unfold match_Check_F at H
 refine Does.intro Try.func35 rfl Try.ntmps35 rfl fun w0 I0 => ?_
 refine GoC.seq ?_
 refine GoC.region ?_
 refine GoO.pure (ps_assign rfl rfl) ?_
 refine GoO.nil ?_
 refine GoK.code ?_
 refine GoC.seq ?_
 refine GoC.seq ?_
 refine GoC.region ?_
 refine GoO.pure (ps_move rfl rfl) ?_
 refine GoO.pure (ps_lss rfl rfl rfl) ?_
 refine GoO.pure (ps_move rfl rfl) ?_
 refine GoO.guardE rfl rfl rfl rfl (fun h1 => ?_) (fun h1 => ?_)
 replace H := ite_f h1 H
 refine GoO.pure (ps_move rfl rfl) ?_
 refine GoO.guardT rfl rfl rfl ?_
 refine GoO.pure (ps_gtr rfl rfl rfl) ?_
 refine GoO.pure (ps_pickF rfl rfl rfl) ?_
 refine GoO.pure (ps_move rfl rfl) ?_
 refine GoO.guardE rfl rfl rfl rfl (fun h2 => ?_) (fun h2 => ?_)
 replace H := ite_f h2 H
 refine GoO.pure (ps_move rfl rfl) ?_
 refine GoO.guardT rfl rfl rfl ?_
 refine GoO.pure (ps_lss rfl rfl rfl) ?_
 refine GoO.pure (ps_pickF rfl rfl rfl) ?_
 refine GoO.pure (ps_move rfl rfl) ?_
 refine GoO.guardE rfl rfl rfl rfl (fun h3 => ?_) (fun h3 => ?_)
 replace H := ite_f h3 H
 refine GoO.pure (ps_move rfl rfl) ?_
 refine GoO.guardT rfl rfl rfl ?_
 refine GoO.pure (ps_gtr rfl rfl rfl) ?_
 refine GoO.pure (ps_pickF rfl rfl rfl) ?_
 refine GoO.nil ?_
 refine GoK.code ?_
 refine GoC.condD rfl (fun h4 => ?_) (fun h4 => ?_)
 replace H := ite_t h4 H
 refine GoC.seq ?_
 refine GoC.region ?_
 refine GoO.pure (ps_assign rfl rfl) ?_
 refine GoO.nil ?_
 refine GoK.code ?_
 obtain rfl := Option.some.inj H
 exact GoC.retL (ds := [.v (.int .i64 1)]) Try.results35 (ResL.cons (ResD.tmp rfl) (ResL.nil)) (Take.nil _) ⟨rfl, rfl⟩
 replace H := ite_f h4 H
 refine GoC.skip ?_
 refine GoK.code ?_
 refine GoC.seq ?_
 refine GoC.seq ?_
 refine GoC.region ?_
 refine GoO.pure (ps_move rfl rfl) ?_
 refine GoO.pure (ps_len rfl (by constructor) rfl) ?_
 refine GoO.lenLe (n := l.length) (x := .tmp 23) rfl (by constructor) sl_lenLe (fun ml5 => ?_)
 refine GoO.pure (ps_gtr rfl rfl rfl) ?_
 refine GoO.nil ?_
 refine GoK.code ?_
 refine GoC.condD rfl (fun h6 => ?_) (fun h6 => ?_)
 replace H := ite_t h6 H
 refine GoC.seq ?_
 refine GoC.region ?_
 refine GoO.pure (ps_assign rfl rfl) ?_
 refine GoO.nil ?_
 refine GoK.code ?_
 obtain rfl := Option.some.inj H
 exact GoC.retL (ds := [.v (.int .i64 2)]) Try.results35 (ResL.cons (ResD.tmp rfl) (ResL.nil)) (Take.nil _) ⟨rfl, rfl⟩
 replace H := ite_f h6 H
 refine GoC.skip ?_
 refine GoK.code ?_
 refine GoC.seq ?_
 refine GoC.seq ?_
 refine GoC.region ?_
 refine GoO.pure (ps_move rfl rfl) ?_
 refine GoO.pure (ps_len rfl (by constructor) rfl) ?_
 refine GoO.pure (ps_move rfl rfl) ?_
 refine GoO.nil ?_
 refine GoK.code ?_
 have hb := bind_l H; clear H
 obtain ⟨q9, hl17, HK7⟩ := hb
 refine GoC.blockJ [] [] (fun v h => q9 = .go () ∧ v = [] ∧ h = []) ?_ ?_
 refine GoC.loopJ [(0, _), (1, _), (26, _), (27, _)] [] (fun mQ v h => ∃ (k10 : Nat), (k10 + mQ = l.length ∧ forC (match_Check_B1 m n l) mQ k10 () = some q9) ∧ v = [(28, .v (.int .i64 ((k10 : Nat) : Int)))] ∧ h = []) l.length ⟨_, ⟨by omega, hl17⟩, rfl, rfl⟩ (EnvD.eq rfl (EnvD.eq rfl (EnvD.eq rfl (EnvD.eq rfl (EnvD.eq rfl (EnvD.nil)))))) (TkD.nil _) ?_
 rintro m11 v h ⟨k10, ⟨hkk10, hF8⟩, rfl, rfl⟩
 refine GoC.seq ?_
 refine GoC.region ?_
 refine GoO.pure (ps_lss rfl rfl rfl) ?_
 refine GoO.nil ?_
 refine GoK.code ?_
 refine GoC.seq ?_
 refine GoC.condD rfl (fun (hk10 : (k10 : Int) < ((l.length : Nat) : Int)) => ?_) (fun (hk10 : ¬ (k10 : Int) < ((l.length : Nat) : Int)) => ?_)
 obtain ⟨m11', rfl⟩ : ∃ x, m11 = x + 1 := ⟨m11 - 1, by omega⟩
 have hb := bind_l hF8; clear hF8
 obtain ⟨qrm11, H, hF8⟩ := hb
 have hnk10 : k10 < l.length := by omega
 have hIk10 : InI ((k10 : Int) + 1) := inI_len hk10 ml5
 refine GoC.skip ?_
 refine GoK.code ?_
 refine GoC.seq ?_
 refine GoC.block ?_
 refine GoC.seq ?_
 refine GoC.region ?_
 refine GoO.pure (ps_indexAddrRN rfl rfl hnk10 rfl) ?_
 refine GoO.pure (ps_loadAgR rfl hnk10 rfl rfl) ?_
 refine GoO.effB (ef_alloc rfl) (fun β12 => ?_)
 refine GoO.eff1 (ef_storeAg rfl rfl At.p0 upd_whole Nat.zero_lt_one rfl) ?_
 refine GoO.nil ?_
 refine GoK.code ?_
 refine GoC.seq ?_
 refine GoC.region ?_
 refine GoO.pure (ps_fieldAddr rfl rfl) ?_
 refine GoO.pure (ps_load rfl At.p0 At.p0 Nat.zero_lt_one rfl rfl) ?_
 refine GoO.pure (ps_lss rfl rfl rfl) ?_
 refine GoO.pure (ps_move rfl rfl) ?_
 refine GoO.guardE rfl rfl rfl rfl (fun h13 => ?_) (fun h13 => ?_)
 replace H := ite_f h13 H
 refine GoO.pure (ps_fieldAddr rfl rfl) ?_
 refine GoO.guardT rfl rfl rfl ?_
 refine GoO.pure (ps_load rfl At.p0 At.p0 Nat.zero_lt_one rfl rfl) ?_
 refine GoO.guardT rfl rfl rfl ?_
 refine GoO.pure (ps_move rfl rfl) ?_
 refine GoO.guardT rfl rfl rfl ?_
 refine GoO.pure (ps_geq rfl rfl rfl) ?_
 refine GoO.pure (ps_pickF rfl rfl rfl) ?_
 refine GoO.pure (ps_move rfl rfl) ?_
 refine GoO.guardE rfl rfl rfl rfl (fun h14 => ?_) (fun h14 => ?_)
 replace H := ite_f h14 H
 refine GoO.pure (ps_fieldAddr rfl rfl) ?_
 refine GoO.guardT rfl rfl rfl ?_
 refine GoO.pure (ps_load rfl At.p0 At.p0 Nat.zero_lt_one rfl rfl) ?_
 refine GoO.guardT rfl rfl rfl ?_
 refine GoO.pure (ps_lss rfl rfl rfl) ?_
 refine GoO.pure (ps_pickF rfl rfl rfl) ?_
 refine GoO.pure (ps_move rfl rfl) ?_
 refine GoO.guardE rfl rfl rfl rfl (fun h15 => ?_) (fun h15 => ?_)
 replace H := ite_f h15 H
 refine GoO.pure (ps_fieldAddr rfl rfl) ?_
 refine GoO.guardT rfl rfl rfl ?_
 refine GoO.pure (ps_load rfl At.p0 At.p0 Nat.zero_lt_one rfl rfl) ?_
 refine GoO.guardT rfl rfl rfl ?_
 refine GoO.pure (ps_move rfl rfl) ?_
 refine GoO.guardT rfl rfl rfl ?_
 refine GoO.pure (ps_geq rfl rfl rfl) ?_
 refine GoO.pure (ps_pickF rfl rfl rfl) ?_
 refine GoO.nil ?_
 refine GoK.code ?_
 refine GoC.condD rfl (fun h16 => ?_) (fun h16 => ?_)
 replace H := ite_t h16 H
 refine GoC.seq ?_
 refine GoC.region ?_
 refine GoO.pure (ps_assign rfl rfl) ?_
 refine GoO.nil ?_
 refine GoK.code ?_
 obtain rfl := Option.some.inj H
 obtain rfl := Option.some.inj hF8
 obtain rfl := Option.some.inj HK7
 exact GoC.retL (ds := [.v (.int .i64 4)]) Try.results35 (ResL.cons (ResD.tmp rfl) (ResL.nil)) (Take.nil _) ⟨rfl, rfl⟩
 replace H := ite_f h16 H
 refine GoC.skip ?_
 refine GoK.blk ?_
 refine GoK.code ?_
 refine GoC.region ?_
 refine GoO.pure (ps_add rfl rfl rfl hIk10) ?_
 refine GoO.pure (ps_move rfl rfl) ?_
 refine GoO.nil ?_
 obtain rfl := Option.some.inj H
 exact GoK.againJ m11' (by omega) ⟨_, ⟨by omega, hF8⟩, rfl, rfl⟩ (EnvD.eq rfl (EnvD.eq rfl (EnvD.eq rfl (EnvD.eq rfl (EnvD.eq rfl (EnvD.nil)))))) (TkD.nil _)
 replace H := ite_t h15 H
 refine GoO.guardF rfl rfl rfl rfl ?_
 refine GoO.guardF rfl rfl rfl rfl ?_
 refine GoO.guardF rfl rfl rfl rfl ?_
 refine GoO.pure (ps_pickT rfl rfl rfl) ?_
 refine GoO.nil ?_
 refine GoK.code ?_
 refine GoC.condT rfl ?_
 refine GoC.seq ?_
 refine GoC.region ?_
 refine GoO.pure (ps_assign rfl rfl) ?_
 refine GoO.nil ?_
 refine GoK.code ?_
 obtain rfl := Option.some.inj H
 obtain rfl := Option.some.inj hF8
 obtain rfl := Option.some.inj HK7
 exact GoC.retL (ds := [.v (.int .i64 4)]) Try.results35 (ResL.cons (ResD.tmp rfl) (ResL.nil)) (Take.nil _) ⟨rfl, rfl⟩
 replace H := ite_t h14 H
 refine GoO.guardF rfl rfl rfl rfl ?_
 refine GoO.guardF rfl rfl rfl rfl ?_
 refine GoO.pure (ps_pickT rfl rfl rfl) ?_
 refine GoO.pure (ps_move rfl rfl) ?_
 refine GoO.guardF rfl rfl rfl rfl ?_
 refine GoO.guardF rfl rfl rfl rfl ?_
 refine GoO.guardF rfl rfl rfl rfl ?_
 refine GoO.guardF rfl rfl rfl rfl ?_
 refine GoO.pure (ps_pickT rfl rfl rfl) ?_
 refine GoO.nil ?_
 refine GoK.code ?_
 refine GoC.condT rfl ?_
 refine GoC.seq ?_
 refine GoC.region ?_
 refine GoO.pure (ps_assign rfl rfl) ?_
 refine GoO.nil ?_
 refine GoK.code ?_
 obtain rfl := Option.some.inj H
 obtain rfl := Option.some.inj hF8
 obtain rfl := Option.some.inj HK7
 exact GoC.retL (ds := [.v (.int .i64 4)]) Try.results35 (ResL.cons (ResD.tmp rfl) (ResL.nil)) (Take.nil _) ⟨rfl, rfl⟩
 replace H := ite_t h13 H
 refine GoO.guardF rfl rfl rfl rfl ?_
 refine GoO.guardF rfl rfl rfl rfl ?_
 refine GoO.guardF rfl rfl rfl rfl ?_
 refine GoO.pure (ps_pickT rfl rfl rfl) ?_
 refine GoO.pure (ps_move rfl rfl) ?_
 refine GoO.guardF rfl rfl rfl rfl ?_
 refine GoO.guardF rfl rfl rfl rfl ?_
 refine GoO.guardF rfl rfl rfl rfl ?_
 refine GoO.pure (ps_pickT rfl rfl rfl) ?_
 refine GoO.pure (ps_move rfl rfl) ?_
 refine GoO.guardF rfl rfl rfl rfl ?_
 refine GoO.guardF rfl rfl rfl rfl ?_
 refine GoO.guardF rfl rfl rfl rfl ?_
 refine GoO.guardF rfl rfl rfl rfl ?_
 refine GoO.pure (ps_pickT rfl rfl rfl) ?_
 refine GoO.nil ?_
 refine GoK.code ?_
 refine GoC.condT rfl ?_
 refine GoC.seq ?_
 refine GoC.region ?_
 refine GoO.pure (ps_assign rfl rfl) ?_
 refine GoO.nil ?_
 refine GoK.code ?_
 obtain rfl := Option.some.inj H
 obtain rfl := Option.some.inj hF8
 obtain rfl := Option.some.inj HK7
 exact GoC.retL (ds := [.v (.int .i64 4)]) Try.results35 (ResL.cons (ResD.tmp rfl) (ResL.nil)) (Take.nil _) ⟨rfl, rfl⟩
 obtain rfl : m11 = 0 := by omega
 refine GoC.exit rfl ?_
 cases hF8
 exact GoK.meet ⟨rfl, rfl, rfl⟩ (EnvD.nil) (TkD.nil _)
 rintro v h ⟨rfl, rfl, rfl⟩
 have H := HK7; clear HK7
 refine GoK.code ?_
 refine GoC.seq ?_
 refine GoC.region ?_
 refine GoO.pure (ps_assign rfl rfl) ?_
 refine GoO.nil ?_
 refine GoK.code ?_
 obtain rfl := Option.some.inj H
 exact GoC.retL (ds := [.v (.int .i64 0)]) Try.results35 (ResL.cons (ResD.tmp rfl) (ResL.nil)) (Take.nil _) ⟨rfl, rfl⟩
 replace H := ite_t h3 H
 refine GoO.guardF rfl rfl rfl rfl ?_
 refine GoO.pure (ps_pickT rfl rfl rfl) ?_
 refine GoO.nil ?_
 refine GoK.code ?_
 refine GoC.condT rfl ?_
 refine GoC.seq ?_
 refine GoC.region ?_
 refine GoO.pure (ps_assign rfl rfl) ?_
 refine GoO.nil ?_
 refine GoK.code ?_
 obtain rfl := Option.some.inj H
 exact GoC.retL (ds := [.v (.int .i64 1)]) Try.results35 (ResL.cons (ResD.tmp rfl) (ResL.nil)) (Take.nil _) ⟨rfl, rfl⟩
 replace H := ite_t h2 H
 refine GoO.guardF rfl rfl rfl rfl ?_
 refine GoO.pure (ps_pickT rfl rfl rfl) ?_
 refine GoO.pure (ps_move rfl rfl) ?_
 refine GoO.guardF rfl rfl rfl rfl ?_
 refine GoO.guardF rfl rfl rfl rfl ?_
 refine GoO.pure (ps_pickT rfl rfl rfl) ?_
 refine GoO.nil ?_
 refine GoK.code ?_
 refine GoC.condT rfl ?_
 refine GoC.seq ?_
 refine GoC.region ?_
 refine GoO.pure (ps_assign rfl rfl) ?_
 refine GoO.nil ?_
 refine GoK.code ?_
 obtain rfl := Option.some.inj H
 exact GoC.retL (ds := [.v (.int .i64 1)]) Try.results35 (ResL.cons (ResD.tmp rfl) (ResL.nil)) (Take.nil _) ⟨rfl, rfl⟩
 replace H := ite_t h1 H
 refine GoO.guardF rfl rfl rfl rfl ?_
 refine GoO.pure (ps_pickT rfl rfl rfl) ?_
 refine GoO.pure (ps_move rfl rfl) ?_
 refine GoO.guardF rfl rfl rfl rfl ?_
 refine GoO.guardF rfl rfl rfl rfl ?_
 refine GoO.pure (ps_pickT rfl rfl rfl) ?_
 refine GoO.pure (ps_move rfl rfl) ?_
 refine GoO.guardF rfl rfl rfl rfl ?_
 refine GoO.guardF rfl rfl rfl rfl ?_
 refine GoO.pure (ps_pickT rfl rfl rfl) ?_
 refine GoO.nil ?_
 refine GoK.code ?_
 refine GoC.condT rfl ?_
 refine GoC.seq ?_
 refine GoC.region ?_
 refine GoO.pure (ps_assign rfl rfl) ?_
 refine GoO.nil ?_
 refine GoK.code ?_
 obtain rfl := Option.some.inj H
 exact GoC.retL (ds := [.v (.int .i64 1)]) Try.results35 (ResL.cons (ResD.tmp rfl) (ResL.nil)) (Take.nil _) ⟨rfl, rfl⟩

def match_mates_c1_B1 (rec : (Int → (List Arc) → (List Bool) → (List Int) → Option (Bool × (List Bool) × (List Int)))) (p0 : Int) (c_0 : (List Arc)) : Nat → ((List Bool) × (List Int)) → Option (Ct ((List Bool) × (List Int)) (Bool × (List Bool) × (List Int))) := fun k9 (l2, l3) =>
 if ((c_0.getD k9 El.d).f) ≠ p0 then
  some (.go (l2, l3))
 else
  ck (0 ≤ (c_0.getD k9 El.d).t ∧ (c_0.getD k9 El.d).t < ((l2.length : Nat) : Int)) <|
  if (l2.getD (((c_0.getD k9 El.d).t).toNat) false) = true then
   some (.go (l2, l3))
  else
   ck (0 ≤ (c_0.getD k9 El.d).t ∧ (c_0.getD k9 El.d).t < ((l3.length : Nat) : Int)) <|
   if (l3.getD (((c_0.getD k9 El.d).t).toNat) (0 : Int)) < 0 then
    some (.ret (true, (l2.set (((c_0.getD k9 El.d).t).toNat) true), (l3.set (((c_0.getD k9 El.d).t).toNat) ((k9 : Nat) : Int))))
   else
    ck (0 ≤ (l3.getD (((c_0.getD k9 El.d).t).toNat) (0 : Int)) ∧ (l3.getD (((c_0.getD k9 El.d).t).toNat) (0 : Int)) < ((c_0.length : Nat) : Int)) <|
    (rec ((c_0.getD ((l3.getD (((c_0.getD k9 El.d).t).toNat) (0 : Int)).toNat) El.d).f) c_0 (l2.set (((c_0.getD k9 El.d).t).toNat) true) l3).bind fun (r18, l19, l20) =>
    ck (l19.length = l2.length) <|
    ck (l20.length = l3.length) <|
    if r18 = true then
     some (.ret (true, l19, (l20.set (((c_0.getD k9 El.d).t).toNat) ((k9 : Nat) : Int))))
    else
     some (.go (l19, l20))
def match_mates_c1_S (rec : Int → (List Arc) → (List Bool) → (List Int) → Option (Bool × (List Bool) × (List Int))) (p0 : Int) (c_0 : (List Arc)) (c_1 : (List Bool)) (c_2 : (List Int)) : Option (Bool × (List Bool) × (List Int)) :=
 (forC (match_mates_c1_B1 rec p0 c_0) c_0.length 0 (c_1, c_2)).bind fun q => match q with
 | .go (l7, l8) =>
  some (false, l7, l8)
 | .ret x => some x
def match_mates_c1_F : Nat → Int → (List Arc) → (List Bool) → (List Int) → Option (Bool × (List Bool) × (List Int))
 | 0 => fun _ _ _ _ => none
 | fuel + 1 => match_mates_c1_S (match_mates_c1_F fuel)
def match_mates_c1_P (out : Bool × (List Bool) × (List Int)) (βc_1 : BK) (βc_2 : BK) (d : D) (H : List HL) : Prop := d = .v (.bool out.1) ∧ H = [.one βc_1 4 1 (row out.2.1), .one βc_2 3 1 (row out.2.2)]
theorem match_mates_c1_I (out : Bool × (List Bool) × (List Int)) (βc_1 : BK) (βc_2 : BK) : IndepP (match_mates_c1_P out βc_1 βc_2) := IndepP.of (by rintro _ _ ⟨rfl, rfl⟩; exact ⟨inferInstance, inferInstance⟩)
set_option maxRecDepth 100000 in
set_option maxHeartbeats 4000000 in
theorem match_mates_c1_spec : ∀ (fuel : Nat) (p0 : Int) (c_0 : (List Arc)) (c_1 : (List Bool)) (c_2 : (List Int)) (βc_1 : BK) (βc_2 : BK) {out : Bool × (List Bool) × (List Int)} (H : match_mates_c1_F fuel p0 c_0 c_1 c_2 = some out), Does Try.prog 65 [.v (.int .i64 p0), .rp 1 1 (row [c_0]).get 0 0, .rp 1 1 (st1 (nth [.own βc_1 1 0 c_1.length])).get 0 0, .rp 1 1 (st1 (nth [.own βc_2 1 0 c_2.length])).get 0 0, .selfp 65 4 (nth [.rp 1 1 (row [c_0]).get 0 0, .rp 1 1 (st1 (nth [.own βc_1 1 0 c_1.length])).get 0 0, .rp 1 1 (st1 (nth [.own βc_2 1 0 c_2.length])).get 0 0, .junk]) 3] [.one βc_1 4 1 (row c_1), .one βc_2 3 1 (row c_2)] (match_mates_c1_P out βc_1 βc_2) := by
 intro fuel
 induction fuel with
 | zero => intro p0 c_0 c_1 c_2 βc_1 βc_2 out H; cases H
 | succ fuel ih =>
 intro p0 c_0 c_1 c_2 βc_1 βc_2 out H
 replace H : match_mates_c1_S (match_mates_c1_F fuel) p0 c_0 c_1 c_2 = some out := H
 generalize match_mates_c1_F fuel = rec at ih H
 unfold match_mates_c1_S at H
 refine Does.intro Try.func65 rfl Try.ntmps65 rfl fun w0 I0 => ?_
 refine GoC.seq ?_
 refine GoC.region ?_
 refine GoO.pure (ps_assign rfl rfl) ?_
 refine GoO.nil ?_
 refine GoK.code ?_
 refine GoC.seq ?_
 refine GoC.seq ?_
 refine GoC.region ?_
 refine GoO.pure (ps_loadR rfl Nat.zero_lt_one rfl rfl) ?_
 refine GoO.pure (ps_len rfl (by constructor) rfl) ?_
 refine GoO.lenLe (n := c_0.length) (x := .tmp 9) rfl (by constructor) sl_lenLe (fun ml1 => ?_)
 refine GoO.pure (ps_move rfl rfl) ?_
 refine GoO.nil ?_
 refine GoK.code ?_
 have hb := bind_l H; clear H
 obtain ⟨q6, hl25, HK4⟩ := hb
 refine GoC.blockJ [] [] (fun v h => ∃ (l7 : (List Bool)) (l8 : (List Int)), q6 = .go (l7, l8) ∧ v = [] ∧ h = [.one βc_1 4 1 (row l7), .one βc_2 3 1 (row l8)]) ?_ ?_
 refine GoC.loopJ [(0, _), (1, _), (9, _), (10, _)] [] (fun mQ v h => ∃ (k9 : Nat) (l2 : (List Bool)) (l3 : (List Int)), (k9 + mQ = c_0.length ∧ forC (match_mates_c1_B1 rec p0 c_0) mQ k9 (l2, l3) = some q6) ∧ v = [(11, .v (.int .i64 ((k9 : Nat) : Int))), (2, .rp 1 1 (st1 (nth [.own βc_1 1 0 l2.length])).get 0 0), (3, .rp 1 1 (st1 (nth [.own βc_2 1 0 l3.length])).get 0 0), (4, .selfp 65 4 (nth [.rp 1 1 (row [c_0]).get 0 0, .rp 1 1 (st1 (nth [.own βc_1 1 0 l2.length])).get 0 0, .rp 1 1 (st1 (nth [.own βc_2 1 0 l3.length])).get 0 0, .junk]) 3)] ∧ h = [.one βc_1 4 1 (row l2), .one βc_2 3 1 (row l3)]) c_0.length ⟨_, _, _, ⟨by omega, hl25⟩, rfl, rfl⟩ (EnvD.eq rfl (EnvD.cons rfl (DLe.rp1 ⟨trivial, DLe.len (by first | rfl | omega | (simp only [row_len, gridC_len, rowO_len] <;> first | rfl | omega))⟩) (EnvD.cons rfl (DLe.rp1 ⟨trivial, DLe.len (by first | rfl | omega | (simp only [row_len, gridC_len, rowO_len] <;> first | rfl | omega))⟩) (EnvD.cons rfl (DLe.selfp ⟨⟨⟨⟨trivial, DLe.refl _⟩, DLe.rp1 ⟨trivial, DLe.len (by first | rfl | omega | (simp only [row_len, gridC_len, rowO_len] <;> first | rfl | omega))⟩⟩, DLe.rp1 ⟨trivial, DLe.len (by first | rfl | omega | (simp only [row_len, gridC_len, rowO_len] <;> first | rfl | omega))⟩⟩, trivial⟩) (EnvD.eq rfl (EnvD.eq rfl (EnvD.eq rfl (EnvD.eq rfl (EnvD.nil))))))))) (TkD.cons _ _ _ _ _ Rem.p0 (HLe.refl _) (TkD.cons _ _ _ _ _ Rem.p0 (HLe.refl _) (TkD.nil _))) ?_
 rintro m10 v h ⟨k9, l2, l3, ⟨hkk9, hF5⟩, rfl, rfl⟩
 refine GoC.seq ?_
 refine GoC.region ?_
 refine GoO.pure (ps_lss rfl rfl rfl) ?_
 refine GoO.nil ?_
 refine GoK.code ?_
 refine GoC.seq ?_
 refine GoC.condD rfl (fun (hk9 : (k9 : Int) < ((c_0.length : Nat) : Int)) => ?_) (fun (hk9 : ¬ (k9 : Int) < ((c_0.length : Nat) : Int)) => ?_)
 obtain ⟨m10', rfl⟩ : ∃ x, m10 = x + 1 := ⟨m10 - 1, by omega⟩
 have hb := bind_l hF5; clear hF5
 obtain ⟨qrm10, H, hF5⟩ := hb
 have hnk9 : k9 < c_0.length := by omega
 have hIk9 : InI ((k9 : Int) + 1) := inI_len hk9 ml1
 refine GoC.skip ?_
 refine GoK.code ?_
 refine GoC.seq ?_
 refine GoC.block ?_
 refine GoC.seq ?_
 refine GoC.region ?_
 refine GoO.pure (ps_move rfl rfl) ?_
 refine GoO.pure (ps_indexAddrRN rfl rfl hnk9 rfl) ?_
 refine GoO.pure (ps_loadAgR rfl hnk9 rfl rfl) ?_
 refine GoO.effB (ef_alloc rfl) (fun β11 => ?_)
 refine GoO.pure (ps_assign rfl rfl) ?_
 refine GoO.eff1 (ef_storeAg rfl rfl At.p0 upd_whole Nat.zero_lt_one rfl) ?_
 refine GoO.nil ?_
 refine GoK.code ?_
 refine GoC.seq ?_
 refine GoC.seq ?_
 refine GoC.region ?_
 refine GoO.pure (ps_fieldAddr rfl rfl) ?_
 refine GoO.pure (ps_load rfl At.p0 At.p0 Nat.zero_lt_one rfl rfl) ?_
 refine GoO.pure (ps_move rfl rfl) ?_
 refine GoO.pure (ps_neq rfl rfl rfl) ?_
 refine GoO.pure (ps_move rfl rfl) ?_
 refine GoO.guardE rfl rfl rfl rfl (fun h12 => ?_) (fun h12 => ?_)
 replace H := ite_f h12 H
 refine GoO.pure (ps_loadR rfl Nat.zero_lt_one rfl rfl) ?_
 refine GoO.guardT rfl rfl rfl ?_
 refine GoO.pure (ps_fieldAddr rfl rfl) ?_
 refine GoO.guardT rfl rfl rfl ?_
 refine GoO.pure (ps_load rfl At.p0 At.p0 Nat.zero_lt_one rfl rfl) ?_
 refine GoO.guardT rfl rfl rfl ?_
 have c13 := ck_l H; replace H := ck_r H
 refine GoO.pure (ps_indexAddr0 rfl rfl c13 rfl) ?_
 refine GoO.guardT rfl rfl rfl ?_
 refine GoO.pure (ps_load rfl At.p1 At.p1 (idx_lt c13) rfl rfl) ?_
 refine GoO.pure (ps_pickF rfl rfl rfl) ?_
 refine GoO.nil ?_
 refine GoK.code ?_
 refine GoC.cond rfl (fun h14 => ?_) (fun h14 => ?_)
 replace H := itb_t h14 H
 refine GoC.exit rfl ?_
 refine GoK.code ?_
 refine GoC.region ?_
 refine GoO.pure (ps_add rfl rfl rfl hIk9) ?_
 refine GoO.pure (ps_move rfl rfl) ?_
 refine GoO.nil ?_
 obtain rfl := Option.some.inj H
 exact GoK.againJ m10' (by omega) ⟨_, _, _, ⟨by omega, hF5⟩, rfl, rfl⟩ (EnvD.eq rfl (EnvD.cons rfl (DLe.rp1 ⟨trivial, DLe.refl _⟩) (EnvD.cons rfl (DLe.rp1 ⟨trivial, DLe.refl _⟩) (EnvD.cons rfl (DLe.selfp ⟨⟨⟨⟨trivial, DLe.refl _⟩, DLe.rp1 ⟨trivial, DLe.refl _⟩⟩, DLe.rp1 ⟨trivial, DLe.refl _⟩⟩, trivial⟩) (EnvD.eq rfl (EnvD.eq rfl (EnvD.eq rfl (EnvD.eq rfl (EnvD.nil))))))))) (TkD.cons _ _ _ _ _ Rem.p1 (HLe.refl _) (TkD.cons _ _ _ _ _ Rem.p1 (HLe.refl _) (TkD.nil _)))
 replace H := itb_f h14 H
 refine GoC.skip ?_
 refine GoK.code ?_
 refine GoC.seq ?_
 refine GoC.region ?_
 refine GoO.pure (ps_loadR rfl Nat.zero_lt_one rfl rfl) ?_
 refine GoO.pure (ps_fieldAddr rfl rfl) ?_
 refine GoO.pure (ps_load rfl At.p0 At.p0 Nat.zero_lt_one rfl rfl) ?_
 refine GoO.pure (ps_indexAddr0 rfl rfl c13 rfl) ?_
 refine GoO.eff1 (ef_store rfl rfl rfl At.p1 (upd_row1 (v := true) rfl) (idx_lt c13) rfl) ?_
 refine GoO.nil ?_
 refine GoK.code ?_
 refine GoC.seq ?_
 refine GoC.drawP (.q 0 (.q 1 (.q 2 (.q 3 (.one 4 (.q 5 (.q 6 (.q 7 (.q 8 (.q 9 (.q 10 (.q 11 (.q 12 (.one 13 (.q 14 (.q 15 (.q 16 (.one 17 (.q 18 (.done)))))))))))))))))))) [(8, _, _, _)] follows (by kernel_rfl) (Take.cons _ _ _ _ _ Rem.p0 (Take.nil _)) ?_
 refine GoP.qN rfl (ps_loadR rfl Nat.zero_lt_one rfl rfl) ?_
 refine GoP.qN rfl (ps_fieldAddr rfl rfl) ?_
 refine GoP.qN rfl (ps_load rfl At.p0 At.p0 Nat.zero_lt_one rfl rfl) ?_
 have c15 := ck_l H; replace H := ck_r H
 refine GoP.qN rfl (ps_indexAddr0 rfl rfl c15 rfl) ?_
 refine GoP.oneN rfl (ps_load rfl At.p2 At.p2 (idx_lt c15) rfl rfl) (Take.cons _ _ _ _ _ Rem.p0 (Take.nil _)) ?_
 refine GoP.qN rfl (ps_lss rfl rfl rfl) ?_
 refine GoP.qN rfl (ps_move rfl rfl) ?_
 refine GoP.decideD 37 rfl (fun h16 => ?_) (fun h16 => ?_)
 replace H := ite_t h16 H
 refine GoP.qF rfl rfl rfl rfl rfl ?_
 refine GoP.qF rfl rfl rfl rfl rfl ?_
 refine GoP.qF rfl rfl rfl rfl rfl ?_
 refine GoP.qF rfl rfl rfl rfl rfl ?_
 refine GoP.qF rfl rfl rfl rfl rfl ?_
 refine GoP.qF rfl rfl rfl rfl rfl ?_
 refine GoP.oneF rfl rfl rfl rfl rfl ?_
 refine GoP.qF rfl rfl rfl rfl rfl ?_
 refine GoP.qF rfl rfl rfl rfl rfl ?_
 refine GoP.qF rfl rfl rfl rfl rfl ?_
 refine GoP.oneF rfl rfl rfl rfl rfl ?_
 refine GoP.qN rfl (ps_pickT rfl rfl rfl) ?_
 refine GoP.done ?_
 refine GoK.code ?_
 refine GoC.condT rfl ?_
 refine GoC.seq ?_
 refine GoC.region ?_
 refine GoO.pure (ps_loadR rfl Nat.zero_lt_one rfl rfl) ?_
 refine GoO.pure (ps_fieldAddr rfl rfl) ?_
 refine GoO.pure (ps_load rfl At.p0 At.p0 Nat.zero_lt_one rfl rfl) ?_
 refine GoO.pure (ps_move rfl rfl) ?_
 refine GoO.pure (ps_indexAddr0 rfl rfl c15 rfl) ?_
 refine GoO.eff1 (ef_store rfl rfl rfl At.p2 (upd_row1 (v := ((k9 : Nat) : Int)) rfl) (idx_lt c15) rfl) ?_
 refine GoO.nil ?_
 refine GoK.code ?_
 refine GoC.seq ?_
 refine GoC.region ?_
 refine GoO.pure (ps_assign rfl rfl) ?_
 refine GoO.nil ?_
 refine GoK.code ?_
 obtain rfl := Option.some.inj H
 obtain rfl := Option.some.inj hF5
 obtain rfl := Option.some.inj HK4
 exact GoC.retL (ds := [.v (.bool true)]) Try.results65 (ResL.cons (ResD.tmp rfl) (ResL.nil)) (Take.cons _ _ _ _ _ Rem.p1 (Take.cons _ _ _ _ _ Rem.p1 (Take.nil _))) ⟨rfl, rfl⟩
 replace H := ite_f h16 H
 refine GoP.qT rfl rfl rfl rfl (ps_loadSelf rfl rfl) ?_
 refine GoP.qT rfl rfl rfl rfl (ps_loadR rfl Nat.zero_lt_one rfl rfl) ?_
 refine GoP.qT rfl rfl rfl rfl (ps_loadR rfl Nat.zero_lt_one rfl rfl) ?_
 refine GoP.qT rfl rfl rfl rfl (ps_fieldAddr rfl rfl) ?_
 refine GoP.qT rfl rfl rfl rfl (ps_load rfl At.p0 At.p0 Nat.zero_lt_one rfl rfl) ?_
 refine GoP.qT rfl rfl rfl rfl (ps_indexAddr0 rfl rfl c15 rfl) ?_
 refine GoP.one1 rfl ⟨_, rfl, rfl, rfl⟩ (Eff.pureG (H1 := [.one β11 29 3 (st1 (nth [.v (.int .i64 ((c_0.getD k9 El.d).f)), .v (.int .i64 ((c_0.getD k9 El.d).t)), .v (.int .i64 ((c_0.getD k9 El.d).c))])), .one βc_1 4 1 (row (l2.set (((c_0.getD k9 El.d).t).toNat) true)), .one βc_2 3 1 (row l3)]) (ps_load rfl At.p2 At.p2 (idx_lt c15) rfl rfl)) (Take.cons _ _ _ _ _ Rem.p0 (Take.nil _)) ?_
 have c17 := ck_l H; replace H := ck_r H
 refine GoP.qT rfl rfl rfl rfl (ps_indexAddrR rfl rfl c17 rfl) ?_
 refine GoP.qT rfl rfl rfl rfl (ps_fieldAddrR rfl rfl) ?_
 refine GoP.qT rfl rfl rfl rfl (ps_loadR rfl (idx_lt c17) rfl rfl) ?_
 have hb := bind_l H; clear H
 obtain ⟨⟨r18, l19, l20⟩, e21, H⟩ := hb
 have c22 := ck_l H; replace H := ck_r H
 have c23 := ck_l H; replace H := ck_r H
 refine GoP.oneC rfl ⟨_, rfl, rfl, rfl⟩ (ef_callvS rfl rfl rfl rfl (Take.cons _ _ _ _ _ Rem.p1 (Take.cons _ _ _ _ _ Rem.p1 (Take.nil _))) (Take.nil _) (ih ((c_0.getD ((l3.getD (((c_0.getD k9 El.d).t).toNat) (0 : Int)).toNat) El.d).f) c_0 (l2.set (((c_0.getD k9 El.d).t).toNat) true) l3 βc_1 βc_2 e21) (LendL.cons (Lend.refl _ _) (LendL.cons (Lend.refl _ _) (LendL.cons (Lend.rp1 ⟨trivial, Lend.ofLe (DLe.len (by first | rfl | omega | (simp only [subl_length, cpl_length, List.length_set, List.length_append, List.length_cons, List.length_nil, List.length_replicate, row_len] <;> first | rfl | omega)))⟩) (LendL.cons (Lend.rp1 ⟨trivial, Lend.refl _ _⟩) (LendL.cons (Lend.selfp ⟨⟨⟨⟨trivial, Lend.refl _ _⟩, Lend.rp1 ⟨trivial, Lend.ofLe (DLe.len (by first | rfl | omega | (simp only [subl_length, cpl_length, List.length_set, List.length_append, List.length_cons, List.length_nil, List.length_replicate, row_len] <;> first | rfl | omega)))⟩⟩, Lend.rp1 ⟨trivial, Lend.refl _ _⟩⟩, trivial⟩) (LendL.nil)))))) rfl (match_mates_c1_I (r18, l19, l20) βc_1 βc_2)) (Take.cons _ _ _ _ _ Rem.p1 (Take.cons _ _ _ _ _ Rem.p1 (Take.cons _ _ _ _ _ Rem.p0 (Take.nil _)))) (fun rr HH hp => ?_)
 obtain ⟨rfl, rfl⟩ := hp
 refine GoP.qN rfl (ps_pickF rfl rfl rfl) ?_
 refine GoP.done ?_
 refine GoK.code ?_
 refine GoC.cond rfl (fun h24 => ?_) (fun h24 => ?_)
 replace H := itb_t h24 H
 refine GoC.seq ?_
 refine GoC.region ?_
 refine GoO.pure (ps_loadR rfl Nat.zero_lt_one rfl rfl) ?_
 refine GoO.pure (ps_fieldAddr rfl rfl) ?_
 refine GoO.pure (ps_load rfl At.p2 At.p2 Nat.zero_lt_one rfl rfl) ?_
 refine GoO.pure (ps_move rfl rfl) ?_
 refine GoO.pure (ps_indexAddr0 rfl rfl c15 rfl) ?_
 refine GoO.eff1 (ef_store rfl rfl rfl At.p1 (upd_row1 (v := ((k9 : Nat) : Int)) rfl) (lt_len (idx_lt c15) (by first | rfl | omega | (simp only [row_len, gridC_len, rowO_len, c22, c23] <;> first | rfl | omega))) rfl) ?_
 refine GoO.nil ?_
 refine GoK.code ?_
 refine GoC.seq ?_
 refine GoC.region ?_
 refine GoO.pure (ps_assign rfl rfl) ?_
 refine GoO.nil ?_
 refine GoK.code ?_
 obtain rfl := Option.some.inj H
 obtain rfl := Option.some.inj hF5
 obtain rfl := Option.some.inj HK4
 exact GoC.retL (ds := [.v (.bool true)]) Try.results65 (ResL.cons (ResD.tmp rfl) (ResL.nil)) (Take.cons _ _ _ _ _ Rem.p0 (Take.cons _ _ _ _ _ Rem.p0 (Take.nil _))) ⟨rfl, rfl⟩
 replace H := itb_f h24 H
 refine GoC.skip ?_
 refine GoK.blk ?_
 refine GoK.code ?_
 refine GoC.region ?_
 refine GoO.pure (ps_add rfl rfl rfl hIk9) ?_
 refine GoO.pure (ps_move rfl rfl) ?_
 refine GoO.nil ?_
 obtain rfl := Option.some.inj H
 exact GoK.againJ m10' (by omega) ⟨_, _, _, ⟨by omega, hF5⟩, rfl, rfl⟩ (EnvD.eq rfl (EnvD.cons rfl (DLe.rp1 ⟨trivial, DLe.len (by first | rfl | omega | (simp only [row_len, gridC_len, rowO_len, c22, c23] <;> first | rfl | omega))⟩) (EnvD.cons rfl (DLe.rp1 ⟨trivial, DLe.len (by first | rfl | omega | (simp only [row_len, gridC_len, rowO_len, c22, c23] <;> first | rfl | omega))⟩) (EnvD.cons rfl (DLe.selfp ⟨⟨⟨⟨trivial, DLe.refl _⟩, DLe.rp1 ⟨trivial, DLe.len (by first | rfl | omega | (simp only [row_len, gridC_len, rowO_len, c22, c23] <;> first | rfl | omega))⟩⟩, DLe.rp1 ⟨trivial, DLe.len (by first | rfl | omega | (simp only [row_len, gridC_len, rowO_len, c22, c23] <;> first | rfl | omega))⟩⟩, trivial⟩) (EnvD.eq rfl (EnvD.eq rfl (EnvD.eq rfl (EnvD.eq rfl (EnvD.nil))))))))) (TkD.cons _ _ _ _ _ Rem.p0 (HLe.refl _) (TkD.cons _ _ _ _ _ Rem.p0 (HLe.refl _) (TkD.nil _)))
 replace H := ite_t h12 H
 refine GoO.guardF rfl rfl rfl rfl ?_
 refine GoO.guardF rfl rfl rfl rfl ?_
 refine GoO.guardF rfl rfl rfl rfl ?_
 refine GoO.guardF rfl rfl rfl rfl ?_
 refine GoO.pure (ps_pickT rfl rfl rfl) ?_
 refine GoO.nil ?_
 refine GoK.code ?_
 refine GoC.condT rfl ?_
 refine GoC.exit rfl ?_
 refine GoK.code ?_
 refine GoC.region ?_
 refine GoO.pure (ps_add rfl rfl rfl hIk9) ?_
 refine GoO.pure (ps_move rfl rfl) ?_
 refine GoO.nil ?_
 obtain rfl := Option.some.inj H
 exact GoK.againJ m10' (by omega) ⟨_, _, _, ⟨by omega, hF5⟩, rfl, rfl⟩ (EnvD.eq rfl (EnvD.cons rfl (DLe.rp1 ⟨trivial, DLe.refl _⟩) (EnvD.cons rfl (DLe.rp1 ⟨trivial, DLe.refl _⟩) (EnvD.cons rfl (DLe.selfp ⟨⟨⟨⟨trivial, DLe.refl _⟩, DLe.rp1 ⟨trivial, DLe.refl _⟩⟩, DLe.rp1 ⟨trivial, DLe.refl _⟩⟩, trivial⟩) (EnvD.eq rfl (EnvD.eq rfl (EnvD.eq rfl (EnvD.eq rfl (EnvD.nil))))))))) (TkD.cons _ _ _ _ _ Rem.p1 (HLe.refl _) (TkD.cons _ _ _ _ _ Rem.p1 (HLe.refl _) (TkD.nil _)))
 obtain rfl : m10 = 0 := by omega
 refine GoC.exit rfl ?_
 cases hF5
 exact GoK.meet ⟨_, _, rfl, rfl, rfl⟩ (EnvD.nil) (TkD.cons _ _ _ _ _ Rem.p0 (HLe.refl _) (TkD.cons _ _ _ _ _ Rem.p0 (HLe.refl _) (TkD.nil _)))
 rintro v h ⟨l7, l8, rfl, rfl, rfl⟩
 have H := HK4; clear HK4
 refine GoK.code ?_
 refine GoC.seq ?_
 refine GoC.region ?_
 refine GoO.pure (ps_assign rfl rfl) ?_
 refine GoO.nil ?_
 refine GoK.code ?_
 obtain rfl := Option.some.inj H
 exact GoC.retL (ds := [.v (.bool false)]) Try.results65 (ResL.cons (ResD.tmp rfl) (ResL.nil)) (Take.cons _ _ _ _ _ Rem.p0 (Take.cons _ _ _ _ _ Rem.p0 (Take.nil _))) ⟨rfl, rfl⟩

def match_mates_B1 (n : Int) (l : (List Arc)) : Nat → ((List Int) × (List Bool)) → Option ((List Int) × (List Bool)) := fun k18 (l10, l12) =>
 ck (0 ≤ n ∧ n ≤ 10000000000) <|
 (match_mates_c1_F 100 ((k18 : Nat) : Int) l (List.replicate n.toNat false) l10).bind fun (r22, l23, l24) =>
 ck (l23.length = n.toNat) <|
 ck (l24.length = l10.length) <|
 some (l24, l23)
def match_mates_F (m : Int) (n : Int) (l : (List Arc)) : Option ((List Int)) :=
 (slices_Repeat_int_F ([(-1)] : List Int) n).bind fun r3 =>
 ck (InI m) <|
 (forN (match_mates_B1 n l) m.toNat 0 (r3, [])).bind fun (l16, l17) =>
 some l16
def match_mates_P (out : (List Int)) (d : D) (H : List HL) : Prop := ∃ β1 : BK, d = .own β1 1 0 out.length ∧ H = [.one β1 3 1 (row out)]
theorem match_mates_I (out : (List Int)) : IndepP (match_mates_P out) := IndepP.of (by rintro _ _ ⟨β1, rfl, rfl⟩; exact ⟨inferInstance, inferInstance⟩)
set_option maxRecDepth 100000 in
set_option maxHeartbeats 4000000 in
theorem match_mates_spec (m : Int) (n : Int) (l : (List Arc)) {out : (List Int)} (H : match_mates_F m n l = some out) : Does Try.prog 36 [.v (.int .i64 m), .v (.int .i64 n), slD l] [] (match_mates_P out) := by
 unfold match_mates_F at H
 refine Does.intro Try.func36 rfl Try.ntmps36 rfl fun w0 I0 => ?_
 refine GoC.seq ?_
 refine GoC.region ?_
 refine GoO.effB (ef_box rfl rfl rfl) (fun β1 => ?_)
 refine GoO.pure (ps_assign rfl rfl) ?_
 refine GoO.nil ?_
 refine GoK.code ?_
 refine GoC.seq ?_
 refine GoC.region ?_
 refine GoO.effB (ef_buildSlice (row ([(-1)] : List Int)) rfl (Parts.cons _ _ _ _ _ _ _ _ ⟨rfl, rfl⟩ (Part.one _ rfl rfl) rfl rfl (Parts.nil _)) rfl rfl rfl rfl) (fun β2 => ?_)
 refine GoO.pure (ps_move rfl rfl) ?_
 have hb := bind_l H; clear H
 obtain ⟨r3, e5, H⟩ := hb
 refine GoO.effC (ef_call rfl (Take.nil _) (Take.cons _ _ _ _ _ Rem.p0 (Take.nil _)) (slices_Repeat_int_spec ([(-1)] : List Int) n e5) (LendL.cons (Lend.all' At.p0 (by first | rfl | omega | (simp only [subl_length, cpl_length, List.length_set, List.length_append, List.length_cons, List.length_nil, List.length_replicate, row_len] <;> first | rfl | omega)) rfl) (LendL.cons (Lend.refl _ _) (LendL.nil))) rfl (slices_Repeat_int_I (r3))) (fun rr HH hp => ?_)
 obtain ⟨β4, rfl, rfl⟩ := hp
 refine GoO.effB (ef_alloc rfl) (fun β6 => ?_)
 refine GoO.eff1 (ef_store rfl rfl rfl At.p0 upd_st1 Nat.zero_lt_one rfl) ?_
 refine GoO.nil ?_
 refine GoK.code ?_
 refine GoC.seq ?_
 refine GoC.region ?_
 refine GoO.effB (ef_alloc rfl) (fun β7 => ?_)
 refine GoO.nil ?_
 refine GoK.code ?_
 refine GoC.seq ?_
 refine GoC.region ?_
 refine GoO.effB (ef_alloc rfl) (fun β8 => ?_)
 refine GoO.nil ?_
 refine GoK.code ?_
 refine GoC.seq ?_
 refine GoC.region ?_
 refine GoO.pure (ps_makeFunc rfl rfl rfl) ?_
 refine GoO.eff1 (ef_store rfl rfl rfl At.p0 upd_st1 Nat.zero_lt_one rfl) ?_
 refine GoO.nil ?_
 refine GoK.code ?_
 refine GoC.seq ?_
 refine GoC.seq ?_
 refine GoC.region ?_
 refine GoO.pure (ps_move rfl rfl) ?_
 refine GoO.pure (ps_move rfl rfl) ?_
 refine GoO.nil ?_
 refine GoK.code ?_
 have c9 := ck_l H; replace H := ck_r H
 have hb := bind_l H; clear H
 obtain ⟨⟨l16, l17⟩, hl28, HK13⟩ := hb
 refine GoC.blockJ [] [.one β2 3 1 (row ([(-1)] : List Int)), .one β1 22 1 (st1 (nth [slD l]))] (fun v h => ∃ (β11 : BK), v = [(7, .ptr β6 1 0 0)] ∧ h = [.one β4 3 1 (row l16), .one β6 30 1 (st1 (nth [.own β4 1 0 l16.length])), .one β11 4 1 (row l17), .one β7 71 1 (st1 (nth [.own β11 1 0 l17.length])), .one β8 96 1 (st1 (nth [.fn 65 4 (nth [.ptr β1 1 0 0, .ptr β7 1 0 0, .ptr β6 1 0 0, .ptr β8 1 0 0])]))]) ?_ ?_
 refine GoC.loopJ [(1, _), (15, _)] [.one β2 3 1 (row ([(-1)] : List Int)), .one β1 22 1 (st1 (nth [slD l]))] (fun mQ v h => ∃ (k18 : Nat) (l10 : (List Int)) (l12 : (List Bool)) (β11 : BK), (k18 + mQ = m.toNat ∧ forN (match_mates_B1 n l) mQ k18 (l10, l12) = some (l16, l17)) ∧ v = [(16, .v (.int .i64 ((k18 : Nat) : Int))), (7, .ptr β6 1 0 0), (8, .ptr β7 1 0 0), (9, .ptr β8 1 0 0)] ∧ h = [.one β4 3 1 (row l10), .one β6 30 1 (st1 (nth [.own β4 1 0 l10.length])), .one β11 4 1 (row l12), .one β7 71 1 (st1 (nth [.own β11 1 0 l12.length])), .one β8 96 1 (st1 (nth [.fn 65 4 (nth [.ptr β1 1 0 0, .ptr β7 1 0 0, .ptr β6 1 0 0, .ptr β8 1 0 0])]))]) m.toNat ⟨_, _, _, ⟨0, 0, 0⟩, ⟨by omega, hl28⟩, rfl, rfl⟩ (EnvD.eq rfl (EnvD.eq rfl (EnvD.eq rfl (EnvD.eq rfl (EnvD.eq rfl (EnvD.eq rfl (EnvD.nil))))))) (TkD.cons _ _ _ _ _ Rem.p3 (HLe.refl _) (TkD.cons _ _ _ _ _ Rem.p2 (HLe.st ⟨trivial, DLe.len (by first | rfl | omega | (simp only [row_len, gridC_len, rowO_len] <;> first | rfl | omega))⟩) (TkD.no _ _ _ _ _ rfl (TkD.cons _ _ _ _ _ Rem.p1 (HLe.st ⟨trivial, DLe.nilOwn⟩) (TkD.cons _ _ _ _ _ Rem.p0 (HLe.st ⟨trivial, DLe.refl _⟩) (TkD.cons _ _ _ _ _ Rem.p0 (HLe.refl _) (TkD.cons _ _ _ _ _ Rem.p0 (HLe.st ⟨trivial, DLe.refl _⟩) (TkD.nil _)))))))) ?_
 rintro m19 v h ⟨k18, l10, l12, β11, ⟨hkk18, hF14⟩, rfl, rfl⟩
 refine GoC.seq ?_
 refine GoC.region ?_
 refine GoO.pure (ps_lss rfl rfl rfl) ?_
 refine GoO.nil ?_
 refine GoK.code ?_
 refine GoC.seq ?_
 refine GoC.condD rfl (fun (hk18 : (k18 : Int) < m) => ?_) (fun (hk18 : ¬ (k18 : Int) < m) => ?_)
 obtain ⟨m19', rfl⟩ : ∃ x, m19 = x + 1 := ⟨m19 - 1, by omega⟩
 have hb := bind_l hF14; clear hF14
 obtain ⟨qrm19, H, hF14⟩ := hb
 have hnk18 : k18 < m.toNat := by omega
 have hIk18 : InI ((k18 : Int) + 1) := inI_cnt hk18 c9
 refine GoC.skip ?_
 refine GoK.code ?_
 refine GoC.seq ?_
 refine GoC.block ?_
 refine GoC.seq ?_
 refine GoC.region ?_
 refine GoO.pure (ps_move rfl rfl) ?_
 refine GoO.pure (ps_assign rfl rfl) ?_
 refine GoO.nil ?_
 refine GoK.code ?_
 refine GoC.seq ?_
 refine GoC.region ?_
 refine GoO.pure (ps_move rfl rfl) ?_
 have c21 := ck_l H; replace H := ck_r H
 refine GoO.effB (ef_makeZ rfl rfl c21 rfl rfl rfl) (fun β20 => ?_)
 refine GoO.le (Le.reH At.p0 (HLe.zeros (α := Bool) ⟨trivial, DLe.refl _⟩)) ?_
 refine GoO.eff1 (ef_store rfl rfl rfl At.p4 upd_st1 Nat.zero_lt_one rfl) ?_
 refine GoO.nil ?_
 refine GoK.code ?_
 refine GoC.region ?_
 refine GoO.pure (ps_load rfl At.p5 At.p5 Nat.zero_lt_one rfl rfl) ?_
 refine GoO.pure (ps_move rfl rfl) ?_
 have hb := bind_l H; clear H
 obtain ⟨⟨r22, l23, l24⟩, e25, H⟩ := hb
 have c26 := ck_l H; replace H := ck_r H
 have c27 := ck_l H; replace H := ck_r H
 refine GoO.effC (ef_callv rfl rfl rfl (Take.cons _ _ _ _ _ Rem.p0 (Take.cons _ _ _ _ _ Rem.p0 (Take.nil _))) (Take.cons _ _ _ _ _ Rem.p5 (Take.cons _ _ _ _ _ Rem.p2 (Take.cons _ _ _ _ _ Rem.p0 (Take.cons _ _ _ _ _ Rem.p1 (Take.nil _))))) (match_mates_c1_spec 100 ((k18 : Nat) : Int) l (List.replicate n.toNat false) l10 β20 β4 e25) (LendL.cons (Lend.refl _ _) (LendL.cons (Lend.box (ds := [slD l]) At.p0 rfl (by decide) ⟨trivial, rfl⟩ (LendL.cons (Lend.refl _ _) (LendL.nil)) ⟨trivial, rfl⟩ rfl) (LendL.cons (Lend.box (ds := [.own β20 1 0 n.toNat]) At.p1 rfl (by decide) ⟨trivial, rfl⟩ (LendL.cons (Lend.ofLe (DLe.len (by first | rfl | omega | (simp only [subl_length, cpl_length, List.length_set, List.length_append, List.length_cons, List.length_nil, List.length_replicate, row_len] <;> first | rfl | omega)))) (LendL.nil)) ⟨trivial, rfl⟩ rfl) (LendL.cons (Lend.box (ds := [.own β4 1 0 l10.length]) At.p2 rfl (by decide) ⟨trivial, rfl⟩ (LendL.cons (Lend.refl _ _) (LendL.nil)) ⟨trivial, rfl⟩ rfl) (LendL.cons (Lend.selfbox At.p3 rfl rfl rfl rfl ⟨⟨⟨⟨trivial, Lend.box (ds := [slD l]) At.p0 rfl (by decide) ⟨trivial, rfl⟩ (LendL.cons (Lend.refl _ _) (LendL.nil)) ⟨trivial, rfl⟩ rfl⟩, Lend.box (ds := [.own β20 1 0 n.toNat]) At.p1 rfl (by decide) ⟨trivial, rfl⟩ (LendL.cons (Lend.ofLe (DLe.len (by first | rfl | omega | (simp only [subl_length, cpl_length, List.length_set, List.length_append, List.length_cons, List.length_nil, List.length_replicate, row_len] <;> first | rfl | omega)))) (LendL.nil)) ⟨trivial, rfl⟩ rfl⟩, Lend.box (ds := [.own β4 1 0 l10.length]) At.p2 rfl (by decide) ⟨trivial, rfl⟩ (LendL.cons (Lend.refl _ _) (LendL.nil)) ⟨trivial, rfl⟩ rfl⟩, trivial⟩) (LendL.nil)))))) rfl (match_mates_c1_I (r22, l23, l24) β20 β4)) (fun rr HH hp => ?_)
 obtain ⟨rfl, rfl⟩ := hp
 refine GoO.nil ?_
 refine GoK.blk ?_
 refine GoK.code ?_
 refine GoC.region ?_
 refine GoO.pure (ps_add rfl rfl rfl hIk18) ?_
 refine GoO.pure (ps_move rfl rfl) ?_
 refine GoO.nil ?_
 obtain rfl := Option.some.inj H
 exact GoK.againJ m19' (by omega) ⟨_, _, _, β20, ⟨by omega, hF14⟩, rfl, rfl⟩ (EnvD.eq rfl (EnvD.eq rfl (EnvD.eq rfl (EnvD.eq rfl (EnvD.eq rfl (EnvD.eq rfl (EnvD.nil))))))) (TkD.cons _ _ _ _ _ Rem.p1 (HLe.refl _) (TkD.cons _ _ _ _ _ Rem.p1 (HLe.st ⟨trivial, DLe.len (by first | rfl | omega | (simp only [row_len, gridC_len, rowO_len, c26, c27] <;> first | rfl | omega))⟩) (TkD.cons _ _ _ _ _ Rem.p0 (HLe.refl _) (TkD.cons _ _ _ _ _ Rem.p1 (HLe.st ⟨trivial, DLe.len (by first | rfl | omega | (simp only [row_len, gridC_len, rowO_len, c26, c27] <;> first | rfl | omega))⟩) (TkD.cons _ _ _ _ _ Rem.p1 (HLe.st ⟨trivial, DLe.refl _⟩) (TkD.cons _ _ _ _ _ Rem.p1 (HLe.refl _) (TkD.cons _ _ _ _ _ Rem.p1 (HLe.st ⟨trivial, DLe.refl _⟩) (TkD.nil _))))))))
 obtain rfl : m19 = 0 := by omega
 refine GoC.exit rfl ?_
 cases hF14
 exact GoK.meet ⟨β11, rfl, rfl⟩ (EnvD.eq rfl (EnvD.nil)) (TkD.cons _ _ _ _ _ Rem.p0 (HLe.refl _) (TkD.cons _ _ _ _ _ Rem.p0 (HLe.st ⟨trivial, DLe.len (by first | rfl | omega | (simp only [row_len, gridC_len, rowO_len] <;> first | rfl | omega))⟩) (TkD.cons _ _ _ _ _ Rem.p0 (HLe.refl _) (TkD.cons _ _ _ _ _ Rem.p0 (HLe.st ⟨trivial, DLe.len (by first | rfl | omega | (simp only [row_len, gridC_len, rowO_len] <;> first | rfl | omega))⟩) (TkD.cons _ _ _ _ _ Rem.p0 (HLe.st ⟨trivial, DLe.refl _⟩) (TkD.cons _ _ _ _ _ Rem.p0 (HLe.refl _) (TkD.cons _ _ _ _ _ Rem.p0 (HLe.st ⟨trivial, DLe.refl _⟩) (TkD.nil _))))))))
 rintro v h ⟨β11, rfl, rfl⟩
 have H := HK13; clear HK13
 refine GoK.code ?_
 refine GoC.seq ?_
 refine GoC.region ?_
 refine GoO.pure (ps_load rfl At.p1 At.p1 Nat.zero_lt_one rfl rfl) ?_
 refine GoO.pure (ps_assign rfl rfl) ?_
 refine GoO.nil ?_
 refine GoK.code ?_
 obtain rfl := Option.some.inj H
 exact GoC.retL (ds := [.own β4 1 0 l16.length]) Try.results36 (ResL.cons (ResD.tmp rfl) (ResL.nil)) (Take.cons _ _ _ _ _ Rem.p0 (Take.nil _)) ⟨β4, rfl, rfl⟩

def match_Most_B1 (r4 : (List Int)) : Nat → (List Int) → Option ((List Int)) := fun k14 l9 =>
 if 0 ≤ (r4.getD k14 (0 : Int)) then
  ck (l9.length + 1 ≤ 17592186044416) <|
  some (l9 ++ ([(r4.getD k14 (0 : Int))] : List Int))
 else
  some l9
def match_Most_F (m : Int) (n : Int) (l : (List Arc)) : Option ((List Int) × Int) :=
 (match_Check_F m n l).bind fun r1 =>
 if r1 ≠ 0 then
  some ([], r1)
 else
  (match_mates_F m n l).bind fun r4 =>
  (forN (match_Most_B1 r4) r4.length 0 []).bind fun l13 =>
  (slices_Sort_int_F l13).bind fun l21 =>
  ck (l21.length = l13.length) <|
  some (l21, 0)
def match_Most_P (out : (List Int) × Int) (d : D) (H : List HL) : Prop := ∃ β1 : BK, d = .tp 2 (nth [.own β1 1 0 out.1.length, .v (.int .i64 out.2)]) ∧ H = [.one β1 3 1 (row out.1)]
theorem match_Most_I (out : (List Int) × Int) : IndepP (match_Most_P out) := IndepP.of (by rintro _ _ ⟨β1, rfl, rfl⟩; exact ⟨inferInstance, inferInstance⟩)
set_option maxRecDepth 100000 in
set_option maxHeartbeats 4000000 in
theorem match_Most_spec (m : Int) (n : Int) (l : (List Arc)) {out : (List Int) × Int} (H : match_Most_F m n l = some out) : Does Try.prog 10 [.v (.int .i64 m), .v (.int .i64 n), slD l] [] (match_Most_P out) := by
 unfold match_Most_F at H
 refine Does.intro Try.func10 rfl Try.ntmps10 rfl fun w0 I0 => ?_
 refine GoC.seq ?_
 refine GoC.region ?_
 refine GoO.pure (ps_assign rfl rfl) ?_
 refine GoO.pure (ps_assign rfl rfl) ?_
 refine GoO.nil ?_
 refine GoK.code ?_
 refine GoC.seq ?_
 refine GoC.seq ?_
 refine GoC.region ?_
 refine GoO.pure (ps_move rfl rfl) ?_
 refine GoO.pure (ps_move rfl rfl) ?_
 refine GoO.pure (ps_move rfl rfl) ?_
 have hb := bind_l H; clear H
 obtain ⟨r1, e2, H⟩ := hb
 refine GoO.effC (ef_call rfl (Take.nil _) (Take.nil _) (match_Check_spec m n l e2) (LendL.cons (Lend.refl _ _) (LendL.cons (Lend.refl _ _) (LendL.cons (Lend.refl _ _) (LendL.nil)))) rfl (match_Check_I (r1))) (fun rr HH hp => ?_)
 obtain ⟨rfl, rfl⟩ := hp
 refine GoO.pure (ps_assign rfl rfl) ?_
 refine GoO.nil ?_
 refine GoK.code ?_
 refine GoC.seq ?_
 refine GoC.region ?_
 refine GoO.pure (ps_move rfl rfl) ?_
 refine GoO.pure (ps_neq rfl rfl rfl) ?_
 refine GoO.nil ?_
 refine GoK.code ?_
 refine GoC.condD rfl (fun h3 => ?_) (fun h3 => ?_)
 replace H := ite_t h3 H
 refine GoC.seq ?_
 refine GoC.region ?_
 refine GoO.pure (ps_move rfl rfl) ?_
 refine GoO.pure (ps_assign rfl rfl) ?_
 refine GoO.pure (ps_assign rfl rfl) ?_
 refine GoO.nil ?_
 refine GoK.code ?_
 obtain rfl := Option.some.inj H
 refine GoC.le (le_row0 3 1 (row ([] : List Int)) rfl) ?_
 exact GoC.retL (ds := [.own ⟨0, 0, 0⟩ 1 0 0, .v (.int .i64 r1)]) Try.results10 (ResL.cons (ResD.le (ResD.tmp rfl) (by exact DLe.nilOwn)) (ResL.cons (ResD.tmp rfl) (ResL.nil))) (Take.cons _ _ _ _ _ Rem.p0 (Take.nil _)) ⟨⟨0, 0, 0⟩, rfl, rfl⟩
 replace H := ite_f h3 H
 refine GoC.skip ?_
 refine GoK.code ?_
 refine GoC.seq ?_
 refine GoC.region ?_
 refine GoO.pure (ps_assign rfl rfl) ?_
 refine GoO.nil ?_
 refine GoK.code ?_
 refine GoC.seq ?_
 refine GoC.seq ?_
 refine GoC.region ?_
 refine GoO.pure (ps_move rfl rfl) ?_
 refine GoO.pure (ps_move rfl rfl) ?_
 refine GoO.pure (ps_move rfl rfl) ?_
 have hb := bind_l H; clear H
 obtain ⟨r4, e6, H⟩ := hb
 refine GoO.effC (ef_call rfl (Take.nil _) (Take.nil _) (match_mates_spec m n l e6) (LendL.cons (Lend.refl _ _) (LendL.cons (Lend.refl _ _) (LendL.cons (Lend.refl _ _) (LendL.nil)))) rfl (match_mates_I (r4))) (fun rr HH hp => ?_)
 obtain ⟨β5, rfl, rfl⟩ := hp
 refine GoO.pure (ps_len rfl (by constructor) rfl) ?_
 refine GoO.lenLe (n := r4.length) (x := .tmp 22) rfl (by constructor) own_lenLe (fun ml7 => ?_)
 refine GoO.pure (ps_move rfl rfl) ?_
 refine GoO.nil ?_
 refine GoK.code ?_
 have hb := bind_l H; clear H
 obtain ⟨l13, hl20, HK10⟩ := hb
 refine GoC.blockJ [] [.one β5 3 1 (row r4)] (fun v h => ∃ (β8 : BK), v = [(9, .own β8 1 0 l13.length)] ∧ h = [.one β8 3 1 (row l13)]) ?_ ?_
 refine GoC.loopJ [(22, _), (23, _)] [.one β5 3 1 (row r4)] (fun mQ v h => ∃ (k14 : Nat) (l9 : (List Int)) (β8 : BK), (k14 + mQ = r4.length ∧ forN (match_Most_B1 r4) mQ k14 l9 = some l13) ∧ v = [(24, .v (.int .i64 ((k14 : Nat) : Int))), (9, .own β8 1 0 l9.length)] ∧ h = [.one β8 3 1 (row l9)]) r4.length ⟨_, _, ⟨0, 0, 0⟩, ⟨by omega, hl20⟩, rfl, rfl⟩ (EnvD.eq rfl (EnvD.cons rfl (DLe.nilOwn) (EnvD.eq rfl (EnvD.eq rfl (EnvD.nil))))) (TkD.no _ _ _ _ _ rfl (TkD.cons _ _ _ _ _ Rem.p0 (HLe.refl _) (TkD.nil _))) ?_
 rintro m15 v h ⟨k14, l9, β8, ⟨hkk14, hF11⟩, rfl, rfl⟩
 refine GoC.seq ?_
 refine GoC.region ?_
 refine GoO.pure (ps_lss rfl rfl rfl) ?_
 refine GoO.nil ?_
 refine GoK.code ?_
 refine GoC.seq ?_
 refine GoC.condD rfl (fun (hk14 : (k14 : Int) < ((r4.length : Nat) : Int)) => ?_) (fun (hk14 : ¬ (k14 : Int) < ((r4.length : Nat) : Int)) => ?_)
 obtain ⟨m15', rfl⟩ : ∃ x, m15 = x + 1 := ⟨m15 - 1, by omega⟩
 have hb := bind_l hF11; clear hF11
 obtain ⟨qrm15, H, hF11⟩ := hb
 have hnk14 : k14 < r4.length := by omega
 have hIk14 : InI ((k14 : Int) + 1) := inI_len hk14 ml7
 refine GoC.skip ?_
 refine GoK.code ?_
 refine GoC.seq ?_
 refine GoC.block ?_
 refine GoC.seq ?_
 refine GoC.region ?_
 refine GoO.pure (ps_indexAddr0N rfl rfl hnk14 rfl) ?_
 refine GoO.pure (ps_load rfl At.p1 At.p1 hnk14 rfl rfl) ?_
 refine GoO.pure (ps_assign rfl rfl) ?_
 refine GoO.nil ?_
 refine GoK.code ?_
 refine GoC.seq ?_
 refine GoC.region ?_
 refine GoO.pure (ps_move rfl rfl) ?_
 refine GoO.pure (ps_geq rfl rfl rfl) ?_
 refine GoO.nil ?_
 refine GoK.code ?_
 refine GoC.condD rfl (fun h16 => ?_) (fun h16 => ?_)
 replace H := ite_t h16 H
 refine GoC.region ?_
 refine GoO.pure (ps_move rfl rfl) ?_
 refine GoO.pure (ps_move rfl rfl) ?_
 refine GoO.effB (ef_buildSlice (row ([(r4.getD k14 (0 : Int))] : List Int)) rfl (Parts.cons _ _ _ _ _ _ _ _ ⟨rfl, rfl⟩ (Part.one _ rfl rfl) rfl rfl (Parts.nil _)) rfl rfl rfl rfl) (fun β17 => ?_)
 have c19 := ck_l H; replace H := ck_r H
 refine GoO.effB (ef_append rfl rfl Rem.p1 (Src.own At.p0 (by first | omega | (simp only [subl_length, cpl_length, List.length_set, List.length_append, List.length_cons, List.length_nil, List.length_replicate, row_len]; omega) | (simp only [subl_length, cpl_length, List.length_set, List.length_append, List.length_cons, List.length_nil, List.length_replicate, row_len]; done))) (cat_row (α := Int) (by first | rfl | omega | (simp only [subl_length, cpl_length, List.length_set, List.length_append, List.length_cons, List.length_nil, List.length_replicate, row_len] <;> first | rfl | omega)) (by first | rfl | omega | (simp only [subl_length, cpl_length, List.length_set, List.length_append, List.length_cons, List.length_nil, List.length_replicate, row_len] <;> first | rfl | omega)) (fun _ _ _ _ => rfl)) (by first | omega | (simp only [subl_length, cpl_length, List.length_set, List.length_append, List.length_cons, List.length_nil, List.length_replicate, row_len]; omega) | (simp only [subl_length, cpl_length, List.length_set, List.length_append, List.length_cons, List.length_nil, List.length_replicate, row_len]; done)) (app_le c19 rfl) rfl rfl rfl) (fun β18 => ?_)
 refine GoO.pure (ps_assign rfl rfl) ?_
 refine GoO.nil ?_
 refine GoK.blk ?_
 refine GoK.code ?_
 refine GoC.region ?_
 refine GoO.pure (ps_add rfl rfl rfl hIk14) ?_
 refine GoO.pure (ps_move rfl rfl) ?_
 refine GoO.nil ?_
 obtain rfl := Option.some.inj H
 exact GoK.againJ m15' (by omega) ⟨_, _, β18, ⟨by omega, hF11⟩, rfl, rfl⟩ (EnvD.eq rfl (EnvD.cons rfl (DLe.len (by first | rfl | omega | (simp only [row_len, gridC_len, rowO_len, List.length_append, List.length_cons, List.length_nil] <;> first | rfl | omega))) (EnvD.eq rfl (EnvD.eq rfl (EnvD.nil))))) (TkD.cons _ _ _ _ _ Rem.p0 (HLe.refl _) (TkD.cons _ _ _ _ _ Rem.p1 (HLe.refl _) (TkD.nil _)))
 replace H := ite_f h16 H
 refine GoC.skip ?_
 refine GoK.blk ?_
 refine GoK.code ?_
 refine GoC.region ?_
 refine GoO.pure (ps_add rfl rfl rfl hIk14) ?_
 refine GoO.pure (ps_move rfl rfl) ?_
 refine GoO.nil ?_
 obtain rfl := Option.some.inj H
 exact GoK.againJ m15' (by omega) ⟨_, _, β8, ⟨by omega, hF11⟩, rfl, rfl⟩ (EnvD.eq rfl (EnvD.eq rfl (EnvD.eq rfl (EnvD.eq rfl (EnvD.nil))))) (TkD.cons _ _ _ _ _ Rem.p0 (HLe.refl _) (TkD.cons _ _ _ _ _ Rem.p0 (HLe.refl _) (TkD.nil _)))
 obtain rfl : m15 = 0 := by omega
 refine GoC.exit rfl ?_
 cases hF11
 exact GoK.meet ⟨β8, rfl, rfl⟩ (EnvD.cons rfl (DLe.len (by first | rfl | omega | (simp only [row_len, gridC_len, rowO_len] <;> first | rfl | omega))) (EnvD.nil)) (TkD.cons _ _ _ _ _ Rem.p0 (HLe.refl _) (TkD.cons _ _ _ _ _ Rem.p0 (HLe.refl _) (TkD.nil _)))
 rintro v h ⟨β8, rfl, rfl⟩
 have H := HK10; clear HK10
 refine GoK.code ?_
 refine GoC.seq ?_
 refine GoC.region ?_
 refine GoO.pure (ps_move rfl rfl) ?_
 have hb := bind_l H; clear H
 obtain ⟨l21, e22, H⟩ := hb
 have c23 := ck_l H; replace H := ck_r H
 refine GoO.effC (ef_call rfl (Take.cons _ _ _ _ _ Rem.p0 (Take.nil _)) (Take.nil _) (slices_Sort_int_spec l13 β8 e22) (LendL.cons (Lend.refl _ _) (LendL.nil)) rfl (slices_Sort_int_I (l21) β8)) (fun rr HH hp => ?_)
 obtain ⟨rfl, rfl⟩ := hp
 refine GoO.nil ?_
 refine GoK.code ?_
 refine GoC.seq ?_
 refine GoC.region ?_
 refine GoO.pure (ps_move rfl rfl) ?_
 refine GoO.pure (ps_assign rfl rfl) ?_
 refine GoO.pure (ps_assign rfl rfl) ?_
 refine GoO.nil ?_
 refine GoK.code ?_
 obtain rfl := Option.some.inj H
 exact GoC.retL (ds := [.own β8 1 0 l21.length, .v (.int .i64 0)]) Try.results10 (ResL.cons (ResD.le (ResD.tmp rfl) (by exact DLe.len (by first | rfl | omega | (simp only [row_len, gridC_len, rowO_len, c23] <;> first | rfl | omega)))) (ResL.cons (ResD.tmp rfl) (ResL.nil))) (Take.cons _ _ _ _ _ Rem.p0 (Take.nil _)) ⟨β8, rfl, rfl⟩

end Go.Proofs.Ytlpelkfcmeapiaa
