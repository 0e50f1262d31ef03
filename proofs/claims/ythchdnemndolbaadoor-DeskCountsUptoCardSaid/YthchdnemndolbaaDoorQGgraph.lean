import Derived.Test.YthchdnemndolbaaDoorQTys
import Derived.Test.YthchdnemndolbaaDoorQDat
namespace Go.Proofs.YthchdnemndolbaaDoor
open Go Go.Proofs.YthchdnemndolbaaDoor.Sx
set_option linter.unusedVariables false
set_option linter.unusedSimpArgs false
def graph_check_B1 (g : Graph) (least : Int) : Nat → Unit → Option (Ct (Unit) (Int)) := fun k9 _ =>
 if ((g.as.getD k9 El.d).f) < 0 then
  some (.ret 4)
 else
  if g.n ≤ ((g.as.getD k9 El.d).f) then
   some (.ret 4)
  else
   if ((g.as.getD k9 El.d).t) < 0 then
    some (.ret 4)
   else
    if g.n ≤ ((g.as.getD k9 El.d).t) then
     some (.ret 4)
    else
     if ((g.as.getD k9 El.d).c) < least then
      some (.ret 1)
     else
      if 10000 < ((g.as.getD k9 El.d).c) then
       some (.ret 1)
      else
       some (.go ())
def graph_check_F (g : Graph) (least : Int) : Option (Int) :=
 if g.n < 1 then
  some 1
 else
  if 12 < g.n then
   some 1
  else
   if 60 < ((g.as.length : Nat) : Int) then
    some 2
   else
    (forC (graph_check_B1 g least) g.as.length 0 ()).bind fun q => match q with
    | .go _ =>
     some 0
    | .ret x => some x
def graph_check_P (out : Int) (d : D) (H : List HL) : Prop := d = .v (.int .i64 out) ∧ H = []
theorem graph_check_I (out : Int) : IndepP (graph_check_P out) := IndepP.of (by rintro _ _ ⟨rfl, rfl⟩; exact ⟨inferInstance, inferInstance⟩)
set_option maxRecDepth 100000 in
set_option maxHeartbeats 4000000 in
theorem graph_check_spec (g : Graph) (least : Int) {out : Int} (H : graph_check_F g least = some out) : Does Tryd.prog 65 [.ag 2 (nth [.v (.int .i64 g.n), slD g.as]), .v (.int .i64 least)] [] (graph_check_P out) := by
 unfold graph_check_F at H
 refine Does.intro Tryd.func65 rfl Tryd.ntmps65 rfl fun w0 I0 tb0 => ?_
 refine Qj (Qc ?_)
 refine Jq (ef_boxAg rfl rfl) (fun β1 => ?_)
 refine Qa (Qi rfl rfl) ?_
 refine Qo (Qe (Qj (Qj (Qc ?_))))
 refine Qa (Qu rfl rfl) ?_
 refine Qa (Jf rfl Qw Qw Qh rfl rfl) ?_
 refine Qa (ps_lss rfl rfl rfl) ?_
 refine Qa (Ql rfl rfl) ?_
 refine GoO.guardE rfl rfl rfl rfl (fun h2 => ?_) (fun h2 => ?_)
 replace H := Ju h2 H
 refine Qa (Qu rfl rfl) ?_
 refine Jl rfl rfl rfl ?_
 refine Qa (Jf rfl Qw Qw Qh rfl rfl) ?_
 refine Jl rfl rfl rfl ?_
 refine Qa (ps_gtr rfl rfl rfl) ?_
 refine Qa (ps_pickF rfl rfl rfl) ?_
 refine Qo (Qe ?_)
 refine Jc rfl (fun h3 => ?_) (fun h3 => ?_)
 replace H := Jt h3 H
 refine Qj (Qc ?_)
 refine Qa (Qi rfl rfl) ?_
 refine Qo (Qe ?_)
 obtain rfl := Qf H
 exact Jh (ds := [.v (.int .i64 1)]) Tryd.results65 (Qt (Qv rfl) (Je)) (Qm _) ⟨rfl, rfl⟩
 replace H := Ju h3 H
 refine Jg (Qe (Qj (Qj (Qc ?_))))
 refine Qa (Qu rfl rfl) ?_
 refine Qa (Jf rfl Qw Qw Qh rfl rfl) ?_
 refine Qa (ps_len rfl (by constructor) rfl) ?_
 refine GoO.lenLe (n := g.as.length) (x := .tmp 16) rfl (by constructor) sl_lenLe (fun ml4 => ?_)
 refine Qa (ps_gtr rfl rfl rfl) ?_
 refine Qo (Qe ?_)
 refine Jc rfl (fun h5 => ?_) (fun h5 => ?_)
 replace H := Jt h5 H
 refine Qj (Qc ?_)
 refine Qa (Qi rfl rfl) ?_
 refine Qo (Qe ?_)
 obtain rfl := Qf H
 exact Jh (ds := [.v (.int .i64 2)]) Tryd.results65 (Qt (Qv rfl) (Je)) (Qm _) ⟨rfl, rfl⟩
 replace H := Ju h5 H
 refine Jg (Qe (Qj (Qj (Qc ?_))))
 refine Qa (Qu rfl rfl) ?_
 refine Qa (Jf rfl Qw Qw Qh rfl rfl) ?_
 refine Qa (ps_len rfl (by constructor) rfl) ?_
 refine Qa (Ql rfl rfl) ?_
 refine Qo (Qe ?_)
 have hb := Jd H; clear H
 obtain ⟨q8, hl18, HK6⟩ := hb
 refine GoC.blockJ [] [.one β1 64 2 (st1 (nth [.v (.int .i64 g.n), slD g.as]))] (fun v h => q8 = .go () ∧ v = [] ∧ h = []) ?_ ?_
 refine GoC.loopJ [(1, _), (2, _), (20, _), (21, _)] [.one β1 64 2 (st1 (nth [.v (.int .i64 g.n), slD g.as]))] (fun mQ v h => ∃ (k9 : Nat), (k9 + mQ = g.as.length ∧ forC (graph_check_B1 g least) mQ k9 () = some q8) ∧ v = [(22, .v (.int .i64 ((k9 : Nat) : Int)))] ∧ h = []) g.as.length ⟨_, ⟨by omega, hl18⟩, rfl, rfl⟩ (Qg rfl (Qg rfl (Qg rfl (Qg rfl (Qg rfl (Qy)))))) (Qn _ _ _ _ _ Qk (Jj ⟨⟨Qs, Qb _⟩, Qb _⟩) (Jb _)) ?_
 rintro m10 v h ⟨k9, ⟨hkk9, hF7⟩, rfl, rfl⟩
 refine Qj (Qc ?_)
 refine Qa (ps_lss rfl rfl rfl) ?_
 refine Qo (Qe (Qj ?_))
 refine Jc rfl (fun (hk9 : (k9 : Int) < ((g.as.length : Nat) : Int)) => ?_) (fun (hk9 : ¬ (k9 : Int) < ((g.as.length : Nat) : Int)) => ?_)
 obtain ⟨m10', rfl⟩ : ∃ x, m10 = x + 1 := ⟨m10 - 1, by omega⟩
 have hb := Jd hF7; clear hF7
 obtain ⟨qrm10, H, hF7⟩ := hb
 have hnk9 : k9 < g.as.length := by omega
 have hIk9 : InI ((k9 : Int) + 1) := inI_len hk9 ml4
 refine Jg (Qe (Qj (GoC.block (Qj (Qc ?_)))))
 refine Qa (ps_indexAddrRN rfl rfl hnk9 rfl) ?_
 refine Qa (ps_loadAgR rfl hnk9 rfl rfl) ?_
 refine Jq (ef_alloc rfl) (fun β11 => ?_)
 refine GoO.eff1 (ef_storeAg rfl rfl Qw upd_whole Qh rfl) ?_
 refine Qo (Qe (Qj (Qj (Qc ?_))))
 refine Qa (Qu rfl rfl) ?_
 refine Qa (Jf rfl Qw Qw Qh rfl rfl) ?_
 refine Qa (ps_lss rfl rfl rfl) ?_
 refine Qa (Ql rfl rfl) ?_
 refine GoO.guardE rfl rfl rfl rfl (fun h12 => ?_) (fun h12 => ?_)
 replace H := Ju h12 H
 refine Qa (Qu rfl rfl) ?_
 refine Jl rfl rfl rfl ?_
 refine Qa (Jf rfl Qw Qw Qh rfl rfl) ?_
 refine Jl rfl rfl rfl ?_
 refine Qa (Qu rfl rfl) ?_
 refine Jl rfl rfl rfl ?_
 refine Qa (Jf rfl Js Js Qh rfl rfl) ?_
 refine Jl rfl rfl rfl ?_
 refine Qa (ps_geq rfl rfl rfl) ?_
 refine Qa (ps_pickF rfl rfl rfl) ?_
 refine Qa (Ql rfl rfl) ?_
 refine GoO.guardE rfl rfl rfl rfl (fun h13 => ?_) (fun h13 => ?_)
 replace H := Ju h13 H
 refine Qa (Qu rfl rfl) ?_
 refine Jl rfl rfl rfl ?_
 refine Qa (Jf rfl Qw Qw Qh rfl rfl) ?_
 refine Jl rfl rfl rfl ?_
 refine Qa (ps_lss rfl rfl rfl) ?_
 refine Qa (ps_pickF rfl rfl rfl) ?_
 refine Qa (Ql rfl rfl) ?_
 refine GoO.guardE rfl rfl rfl rfl (fun h14 => ?_) (fun h14 => ?_)
 replace H := Ju h14 H
 refine Qa (Qu rfl rfl) ?_
 refine Jl rfl rfl rfl ?_
 refine Qa (Jf rfl Qw Qw Qh rfl rfl) ?_
 refine Jl rfl rfl rfl ?_
 refine Qa (Qu rfl rfl) ?_
 refine Jl rfl rfl rfl ?_
 refine Qa (Jf rfl Js Js Qh rfl rfl) ?_
 refine Jl rfl rfl rfl ?_
 refine Qa (ps_geq rfl rfl rfl) ?_
 refine Qa (ps_pickF rfl rfl rfl) ?_
 refine Qo (Qe ?_)
 refine Jc rfl (fun h15 => ?_) (fun h15 => ?_)
 replace H := Jt h15 H
 refine Qj (Qc ?_)
 refine Qa (Qi rfl rfl) ?_
 refine Qo (Qe ?_)
 obtain rfl := Qf H
 obtain rfl := Qf hF7
 obtain rfl := Qf HK6
 exact Jh (ds := [.v (.int .i64 4)]) Tryd.results65 (Qt (Qv rfl) (Je)) (Qm _) ⟨rfl, rfl⟩
 replace H := Ju h15 H
 refine Jg (Qe (Qj (Qc ?_)))
 refine Qa (Qu rfl rfl) ?_
 refine Qa (Jf rfl Qw Qw Qh rfl rfl) ?_
 refine Qa (Ql rfl rfl) ?_
 refine Qa (ps_lss rfl rfl rfl) ?_
 refine Qa (Ql rfl rfl) ?_
 refine GoO.guardE rfl rfl rfl rfl (fun h16 => ?_) (fun h16 => ?_)
 replace H := Ju h16 H
 refine Qa (Qu rfl rfl) ?_
 refine Jl rfl rfl rfl ?_
 refine Qa (Jf rfl Qw Qw Qh rfl rfl) ?_
 refine Jl rfl rfl rfl ?_
 refine Qa (ps_gtr rfl rfl rfl) ?_
 refine Qa (ps_pickF rfl rfl rfl) ?_
 refine Qo (Qe ?_)
 refine Jc rfl (fun h17 => ?_) (fun h17 => ?_)
 replace H := Jt h17 H
 refine Qj (Qc ?_)
 refine Qa (Qi rfl rfl) ?_
 refine Qo (Qe ?_)
 obtain rfl := Qf H
 obtain rfl := Qf hF7
 obtain rfl := Qf HK6
 exact Jh (ds := [.v (.int .i64 1)]) Tryd.results65 (Qt (Qv rfl) (Je)) (Qm _) ⟨rfl, rfl⟩
 replace H := Ju h17 H
 refine Jg (GoK.blk (Qe (Qc ?_)))
 refine Qa (ps_add rfl rfl rfl hIk9) ?_
 refine Qa (Ql rfl rfl) ?_
 refine Qo ?_
 obtain rfl := Qf H
 exact GoK.againJ m10' (by omega) ⟨_, ⟨by omega, hF7⟩, rfl, rfl⟩ (Qg rfl (Qg rfl (Qg rfl (Qg rfl (Qg rfl (Qy)))))) (Qn _ _ _ _ _ Jk (Jj ⟨⟨Qs, Qb _⟩, Qb _⟩) (Jb _))
 replace H := Jt h16 H
 refine Ja rfl rfl rfl rfl ?_
 refine Ja rfl rfl rfl rfl ?_
 refine Qa (ps_pickT rfl rfl rfl) ?_
 refine Qo (Qe ?_)
 refine GoC.condT rfl ?_
 refine Qj (Qc ?_)
 refine Qa (Qi rfl rfl) ?_
 refine Qo (Qe ?_)
 obtain rfl := Qf H
 obtain rfl := Qf hF7
 obtain rfl := Qf HK6
 exact Jh (ds := [.v (.int .i64 1)]) Tryd.results65 (Qt (Qv rfl) (Je)) (Qm _) ⟨rfl, rfl⟩
 replace H := Jt h14 H
 refine Ja rfl rfl rfl rfl ?_
 refine Ja rfl rfl rfl rfl ?_
 refine Ja rfl rfl rfl rfl ?_
 refine Ja rfl rfl rfl rfl ?_
 refine Qa (ps_pickT rfl rfl rfl) ?_
 refine Qo (Qe ?_)
 refine GoC.condT rfl ?_
 refine Qj (Qc ?_)
 refine Qa (Qi rfl rfl) ?_
 refine Qo (Qe ?_)
 obtain rfl := Qf H
 obtain rfl := Qf hF7
 obtain rfl := Qf HK6
 exact Jh (ds := [.v (.int .i64 4)]) Tryd.results65 (Qt (Qv rfl) (Je)) (Qm _) ⟨rfl, rfl⟩
 replace H := Jt h13 H
 refine Ja rfl rfl rfl rfl ?_
 refine Ja rfl rfl rfl rfl ?_
 refine Qa (ps_pickT rfl rfl rfl) ?_
 refine Qa (Ql rfl rfl) ?_
 refine Ja rfl rfl rfl rfl ?_
 refine Ja rfl rfl rfl rfl ?_
 refine Ja rfl rfl rfl rfl ?_
 refine Ja rfl rfl rfl rfl ?_
 refine Ja rfl rfl rfl rfl ?_
 refine Qa (ps_pickT rfl rfl rfl) ?_
 refine Qo (Qe ?_)
 refine GoC.condT rfl ?_
 refine Qj (Qc ?_)
 refine Qa (Qi rfl rfl) ?_
 refine Qo (Qe ?_)
 obtain rfl := Qf H
 obtain rfl := Qf hF7
 obtain rfl := Qf HK6
 exact Jh (ds := [.v (.int .i64 4)]) Tryd.results65 (Qt (Qv rfl) (Je)) (Qm _) ⟨rfl, rfl⟩
 replace H := Jt h12 H
 refine Ja rfl rfl rfl rfl ?_
 refine Ja rfl rfl rfl rfl ?_
 refine Ja rfl rfl rfl rfl ?_
 refine Ja rfl rfl rfl rfl ?_
 refine Qa (ps_pickT rfl rfl rfl) ?_
 refine Qa (Ql rfl rfl) ?_
 refine Ja rfl rfl rfl rfl ?_
 refine Ja rfl rfl rfl rfl ?_
 refine Ja rfl rfl rfl rfl ?_
 refine Qa (ps_pickT rfl rfl rfl) ?_
 refine Qa (Ql rfl rfl) ?_
 refine Ja rfl rfl rfl rfl ?_
 refine Ja rfl rfl rfl rfl ?_
 refine Ja rfl rfl rfl rfl ?_
 refine Ja rfl rfl rfl rfl ?_
 refine Ja rfl rfl rfl rfl ?_
 refine Qa (ps_pickT rfl rfl rfl) ?_
 refine Qo (Qe ?_)
 refine GoC.condT rfl ?_
 refine Qj (Qc ?_)
 refine Qa (Qi rfl rfl) ?_
 refine Qo (Qe ?_)
 obtain rfl := Qf H
 obtain rfl := Qf hF7
 obtain rfl := Qf HK6
 exact Jh (ds := [.v (.int .i64 4)]) Tryd.results65 (Qt (Qv rfl) (Je)) (Qm _) ⟨rfl, rfl⟩
 obtain rfl : m10 = 0 := by omega
 refine GoC.exit rfl ?_
 cases hF7
 exact Jr ⟨rfl, rfl, rfl⟩ (Qy) (Qn _ _ _ _ _ Qk (Jj ⟨⟨Qs, Qb _⟩, Qb _⟩) (Jb _))
 rintro v h ⟨rfl, rfl, rfl⟩
 have H := HK6; clear HK6
 refine Qe (Qj (Qc ?_))
 refine Qa (Qi rfl rfl) ?_
 refine Qo (Qe ?_)
 obtain rfl := Qf H
 exact Jh (ds := [.v (.int .i64 0)]) Tryd.results65 (Qt (Qv rfl) (Je)) (Qm _) ⟨rfl, rfl⟩
 replace H := Jt h2 H
 refine Ja rfl rfl rfl rfl ?_
 refine Ja rfl rfl rfl rfl ?_
 refine Qa (ps_pickT rfl rfl rfl) ?_
 refine Qo (Qe ?_)
 refine GoC.condT rfl ?_
 refine Qj (Qc ?_)
 refine Qa (Qi rfl rfl) ?_
 refine Qo (Qe ?_)
 obtain rfl := Qf H
 exact Jh (ds := [.v (.int .i64 1)]) Tryd.results65 (Qt (Qv rfl) (Je)) (Qm _) ⟨rfl, rfl⟩
def graph_Check_F (g : Graph) : Option (Int) :=
 (graph_check_F g 0).bind fun r2 =>
 some r2
def graph_Check_P (out : Int) (d : D) (H : List HL) : Prop := d = .v (.int .i64 out) ∧ H = []
theorem graph_Check_I (out : Int) : IndepP (graph_Check_P out) := IndepP.of (by rintro _ _ ⟨rfl, rfl⟩; exact ⟨inferInstance, inferInstance⟩)
set_option maxRecDepth 100000 in
set_option maxHeartbeats 4000000 in
theorem graph_Check_spec (g : Graph) {out : Int} (H : graph_Check_F g = some out) : Does Tryd.prog 75 [.ag 2 (nth [.v (.int .i64 g.n), slD g.as])] [] (graph_Check_P out) := by
 unfold graph_Check_F at H
 refine Does.intro Tryd.func75 rfl Tryd.ntmps75 rfl fun w0 I0 tb0 => ?_
 refine Qj (Qc ?_)
 refine Jq (ef_boxAg rfl rfl) (fun β1 => ?_)
 refine Qa (Qi rfl rfl) ?_
 refine Qo (Qe (Qj (Qc ?_)))
 refine Qa (ps_loadAg rfl Qw Qw Qh rfl rfl) ?_
 have hb := Jd H; clear H
 obtain ⟨r2, e3, H⟩ := hb
 refine GoO.effC (ef_call rfl (Qm _) (Qm _) (graph_check_spec g 0 e3) (Qq (Lend.agA ⟨⟨Qs, Qp _ _⟩, Qp _ _⟩) (Qq (Qp _ _) (Qz))) rfl (graph_check_I (r2))) (fun rr HH hp => ?_)
 obtain ⟨rfl, rfl⟩ := hp
 refine Qa (Qi rfl rfl) ?_
 refine Qo (Qe ?_)
 obtain rfl := Qf H
 exact Jh (ds := [.v (.int .i64 r2)]) Tryd.results75 (Qt (Qv rfl) (Je)) (Qm _) ⟨rfl, rfl⟩
def graph_CheckNet_F (n : Net) : Option (Int) :=
 (graph_Check_F (⟨n.n, n.as⟩ : Graph)).bind fun r2 =>
 if r2 ≠ 0 then
  some r2
 else
  if n.s < 0 then
   some 4
  else
   if n.n ≤ n.s then
    some 4
   else
    if n.t < 0 then
     some 4
    else
     if n.n ≤ n.t then
      some 4
     else
      if n.s = n.t then
       some 3
      else
       some 0
def graph_CheckNet_P (out : Int) (d : D) (H : List HL) : Prop := d = .v (.int .i64 out) ∧ H = []
theorem graph_CheckNet_I (out : Int) : IndepP (graph_CheckNet_P out) := IndepP.of (by rintro _ _ ⟨rfl, rfl⟩; exact ⟨inferInstance, inferInstance⟩)
set_option maxRecDepth 100000 in
set_option maxHeartbeats 4000000 in
theorem graph_CheckNet_spec (n : Net) {out : Int} (H : graph_CheckNet_F n = some out) : Does Tryd.prog 56 [.ag 4 (nth [.v (.int .i64 n.n), .v (.int .i64 n.s), .v (.int .i64 n.t), slD n.as])] [] (graph_CheckNet_P out) := by
 unfold graph_CheckNet_F at H
 refine Does.intro Tryd.func56 rfl Tryd.ntmps56 rfl fun w0 I0 tb0 => ?_
 refine Qj (Qc ?_)
 refine Jq (ef_boxAg rfl rfl) (fun β1 => ?_)
 refine Qa (Qi rfl rfl) ?_
 refine Qo (Qe (Qj (Qj (Qc ?_))))
 refine Qa (Qu rfl rfl) ?_
 refine Qa (Jf rfl Qw Qw Qh rfl rfl) ?_
 refine Qa (Qu rfl rfl) ?_
 refine Qa (Jf rfl Qw Qw Qh rfl rfl) ?_
 refine Qa (ps_build (Jn _ _ _ _ _ _ _ _ FdP.of (Part.one _ rfl rfl) rfl rfl (Jn _ _ _ _ _ _ _ _ FdP.of (Part.one _ rfl rfl) rfl rfl (Parts.nil _))) rfl) ?_
 have hb := Jd H; clear H
 obtain ⟨r2, e3, H⟩ := hb
 refine GoO.effC (ef_call rfl (Qm _) (Qm _) (graph_Check_spec (⟨n.n, n.as⟩ : Graph) e3) (Qq (Lend.agA ⟨⟨Qs, Qp _ _⟩, Qp _ _⟩) (Qz)) rfl (graph_Check_I (r2))) (fun rr HH hp => ?_)
 obtain ⟨rfl, rfl⟩ := hp
 refine Qa (Qi rfl rfl) ?_
 refine Qo (Qe (Qj (Qc ?_)))
 refine Qa (Ql rfl rfl) ?_
 refine Qa (ps_neq rfl rfl rfl) ?_
 refine Qo (Qe ?_)
 refine Jc rfl (fun h4 => ?_) (fun h4 => ?_)
 replace H := Jt h4 H
 refine Qj (Qc ?_)
 refine Qa (Ql rfl rfl) ?_
 refine Qa (Qi rfl rfl) ?_
 refine Qo (Qe ?_)
 obtain rfl := Qf H
 exact Jh (ds := [.v (.int .i64 r2)]) Tryd.results56 (Qt (Qv rfl) (Je)) (Qm _) ⟨rfl, rfl⟩
 replace H := Ju h4 H
 refine Jg (Qe (Qj (Qj (Qc ?_))))
 refine Qa (Qu rfl rfl) ?_
 refine Qa (Jf rfl Qw Qw Qh rfl rfl) ?_
 refine Qa (ps_lss rfl rfl rfl) ?_
 refine Qa (Ql rfl rfl) ?_
 refine GoO.guardE rfl rfl rfl rfl (fun h5 => ?_) (fun h5 => ?_)
 replace H := Ju h5 H
 refine Qa (Qu rfl rfl) ?_
 refine Jl rfl rfl rfl ?_
 refine Qa (Jf rfl Qw Qw Qh rfl rfl) ?_
 refine Jl rfl rfl rfl ?_
 refine Qa (Qu rfl rfl) ?_
 refine Jl rfl rfl rfl ?_
 refine Qa (Jf rfl Qw Qw Qh rfl rfl) ?_
 refine Jl rfl rfl rfl ?_
 refine Qa (ps_geq rfl rfl rfl) ?_
 refine Qa (ps_pickF rfl rfl rfl) ?_
 refine Qa (Ql rfl rfl) ?_
 refine GoO.guardE rfl rfl rfl rfl (fun h6 => ?_) (fun h6 => ?_)
 replace H := Ju h6 H
 refine Qa (Qu rfl rfl) ?_
 refine Jl rfl rfl rfl ?_
 refine Qa (Jf rfl Qw Qw Qh rfl rfl) ?_
 refine Jl rfl rfl rfl ?_
 refine Qa (ps_lss rfl rfl rfl) ?_
 refine Qa (ps_pickF rfl rfl rfl) ?_
 refine Qa (Ql rfl rfl) ?_
 refine GoO.guardE rfl rfl rfl rfl (fun h7 => ?_) (fun h7 => ?_)
 replace H := Ju h7 H
 refine Qa (Qu rfl rfl) ?_
 refine Jl rfl rfl rfl ?_
 refine Qa (Jf rfl Qw Qw Qh rfl rfl) ?_
 refine Jl rfl rfl rfl ?_
 refine Qa (Qu rfl rfl) ?_
 refine Jl rfl rfl rfl ?_
 refine Qa (Jf rfl Qw Qw Qh rfl rfl) ?_
 refine Jl rfl rfl rfl ?_
 refine Qa (ps_geq rfl rfl rfl) ?_
 refine Qa (ps_pickF rfl rfl rfl) ?_
 refine Qo (Qe ?_)
 refine Jc rfl (fun h8 => ?_) (fun h8 => ?_)
 replace H := Jt h8 H
 refine Qj (Qc ?_)
 refine Qa (Qi rfl rfl) ?_
 refine Qo (Qe ?_)
 obtain rfl := Qf H
 exact Jh (ds := [.v (.int .i64 4)]) Tryd.results56 (Qt (Qv rfl) (Je)) (Qm _) ⟨rfl, rfl⟩
 replace H := Ju h8 H
 refine Jg (Qe (Qj (Qj (Qc ?_))))
 refine Qa (Qu rfl rfl) ?_
 refine Qa (Jf rfl Qw Qw Qh rfl rfl) ?_
 refine Qa (Qu rfl rfl) ?_
 refine Qa (Jf rfl Qw Qw Qh rfl rfl) ?_
 refine Qa (ps_eql rfl rfl rfl) ?_
 refine Qo (Qe ?_)
 refine Jc rfl (fun h9 => ?_) (fun h9 => ?_)
 replace H := Jt h9 H
 refine Qj (Qc ?_)
 refine Qa (Qi rfl rfl) ?_
 refine Qo (Qe ?_)
 obtain rfl := Qf H
 exact Jh (ds := [.v (.int .i64 3)]) Tryd.results56 (Qt (Qv rfl) (Je)) (Qm _) ⟨rfl, rfl⟩
 replace H := Ju h9 H
 refine Jg (Qe (Qj (Qc ?_)))
 refine Qa (Qi rfl rfl) ?_
 refine Qo (Qe ?_)
 obtain rfl := Qf H
 exact Jh (ds := [.v (.int .i64 0)]) Tryd.results56 (Qt (Qv rfl) (Je)) (Qm _) ⟨rfl, rfl⟩
 replace H := Jt h7 H
 refine Ja rfl rfl rfl rfl ?_
 refine Ja rfl rfl rfl rfl ?_
 refine Ja rfl rfl rfl rfl ?_
 refine Ja rfl rfl rfl rfl ?_
 refine Qa (ps_pickT rfl rfl rfl) ?_
 refine Qo (Qe ?_)
 refine GoC.condT rfl ?_
 refine Qj (Qc ?_)
 refine Qa (Qi rfl rfl) ?_
 refine Qo (Qe ?_)
 obtain rfl := Qf H
 exact Jh (ds := [.v (.int .i64 4)]) Tryd.results56 (Qt (Qv rfl) (Je)) (Qm _) ⟨rfl, rfl⟩
 replace H := Jt h6 H
 refine Ja rfl rfl rfl rfl ?_
 refine Ja rfl rfl rfl rfl ?_
 refine Qa (ps_pickT rfl rfl rfl) ?_
 refine Qa (Ql rfl rfl) ?_
 refine Ja rfl rfl rfl rfl ?_
 refine Ja rfl rfl rfl rfl ?_
 refine Ja rfl rfl rfl rfl ?_
 refine Ja rfl rfl rfl rfl ?_
 refine Ja rfl rfl rfl rfl ?_
 refine Qa (ps_pickT rfl rfl rfl) ?_
 refine Qo (Qe ?_)
 refine GoC.condT rfl ?_
 refine Qj (Qc ?_)
 refine Qa (Qi rfl rfl) ?_
 refine Qo (Qe ?_)
 obtain rfl := Qf H
 exact Jh (ds := [.v (.int .i64 4)]) Tryd.results56 (Qt (Qv rfl) (Je)) (Qm _) ⟨rfl, rfl⟩
 replace H := Jt h5 H
 refine Ja rfl rfl rfl rfl ?_
 refine Ja rfl rfl rfl rfl ?_
 refine Ja rfl rfl rfl rfl ?_
 refine Ja rfl rfl rfl rfl ?_
 refine Qa (ps_pickT rfl rfl rfl) ?_
 refine Qa (Ql rfl rfl) ?_
 refine Ja rfl rfl rfl rfl ?_
 refine Ja rfl rfl rfl rfl ?_
 refine Ja rfl rfl rfl rfl ?_
 refine Qa (ps_pickT rfl rfl rfl) ?_
 refine Qa (Ql rfl rfl) ?_
 refine Ja rfl rfl rfl rfl ?_
 refine Ja rfl rfl rfl rfl ?_
 refine Ja rfl rfl rfl rfl ?_
 refine Ja rfl rfl rfl rfl ?_
 refine Ja rfl rfl rfl rfl ?_
 refine Qa (ps_pickT rfl rfl rfl) ?_
 refine Qo (Qe ?_)
 refine GoC.condT rfl ?_
 refine Qj (Qc ?_)
 refine Qa (Qi rfl rfl) ?_
 refine Qo (Qe ?_)
 obtain rfl := Qf H
 exact Jh (ds := [.v (.int .i64 4)]) Tryd.results56 (Qt (Qv rfl) (Je)) (Qm _) ⟨rfl, rfl⟩
def graph_CheckLong_F (g : Graph) : Option (Int) :=
 (graph_check_F g (-10000)).bind fun r2 =>
 some r2
def graph_CheckLong_P (out : Int) (d : D) (H : List HL) : Prop := d = .v (.int .i64 out) ∧ H = []
theorem graph_CheckLong_I (out : Int) : IndepP (graph_CheckLong_P out) := IndepP.of (by rintro _ _ ⟨rfl, rfl⟩; exact ⟨inferInstance, inferInstance⟩)
set_option maxRecDepth 100000 in
set_option maxHeartbeats 4000000 in
theorem graph_CheckLong_spec (g : Graph) {out : Int} (H : graph_CheckLong_F g = some out) : Does Tryd.prog 42 [.ag 2 (nth [.v (.int .i64 g.n), slD g.as])] [] (graph_CheckLong_P out) := by
 unfold graph_CheckLong_F at H
 refine Does.intro Tryd.func42 rfl Tryd.ntmps42 rfl fun w0 I0 tb0 => ?_
 refine Qj (Qc ?_)
 refine Jq (ef_boxAg rfl rfl) (fun β1 => ?_)
 refine Qa (Qi rfl rfl) ?_
 refine Qo (Qe (Qj (Qc ?_)))
 refine Qa (ps_loadAg rfl Qw Qw Qh rfl rfl) ?_
 have hb := Jd H; clear H
 obtain ⟨r2, e3, H⟩ := hb
 refine GoO.effC (ef_call rfl (Qm _) (Qm _) (graph_check_spec g (-10000) e3) (Qq (Lend.agA ⟨⟨Qs, Qp _ _⟩, Qp _ _⟩) (Qq (Qp _ _) (Qz))) rfl (graph_check_I (r2))) (fun rr HH hp => ?_)
 obtain ⟨rfl, rfl⟩ := hp
 refine Qa (Qi rfl rfl) ?_
 refine Qo (Qe ?_)
 obtain rfl := Qf H
 exact Jh (ds := [.v (.int .i64 r2)]) Tryd.results42 (Qt (Qv rfl) (Je)) (Qm _) ⟨rfl, rfl⟩
def graph_Degrees_B1 (g : Graph) : Nat → ((List Int) × (List Int)) → Option ((List Int) × (List Int)) := fun k20 (l13, l14) =>
 ck (0 ≤ (g.as.getD k20 El.d).f ∧ (g.as.getD k20 El.d).f < ((l13.length : Nat) : Int)) <|
 ck (InI ((l13.getD (((g.as.getD k20 El.d).f).toNat) (0 : Int)) + 1)) <|
 ck (0 ≤ (g.as.getD k20 El.d).t ∧ (g.as.getD k20 El.d).t < ((l14.length : Nat) : Int)) <|
 ck (InI ((l14.getD (((g.as.getD k20 El.d).t).toNat) (0 : Int)) + 1)) <|
 some ((l13.set (((g.as.getD k20 El.d).f).toNat) ((l13.getD (((g.as.getD k20 El.d).f).toNat) (0 : Int)) + 1)), (l14.set (((g.as.getD k20 El.d).t).toNat) ((l14.getD (((g.as.getD k20 El.d).t).toNat) (0 : Int)) + 1)))
def graph_Degrees_F (g : Graph) : Option ((List Int) × (List Int) × Int) :=
 (graph_CheckLong_F g).bind fun r2 =>
 if r2 ≠ 0 then
  some ([], [], r2)
 else
  ck (0 ≤ g.n ∧ g.n ≤ 10000000000) <|
  (forN (graph_Degrees_B1 g) g.as.length 0 ((List.replicate g.n.toNat (0 : Int)), (List.replicate g.n.toNat (0 : Int)))).bind fun (l18, l19) =>
  some (l18, l19, 0)
def graph_Degrees_P (out : (List Int) × (List Int) × Int) (d : D) (H : List HL) : Prop := ∃ β1 β2 : BK, d = .tp 3 (nth [.own β1 1 0 out.1.length, .own β2 1 0 out.2.1.length, .v (.int .i64 out.2.2)]) ∧ H = [.one β1 3 1 (row out.1), .one β2 3 1 (row out.2.1)]
theorem graph_Degrees_I (out : (List Int) × (List Int) × Int) : IndepP (graph_Degrees_P out) := IndepP.of (by rintro _ _ ⟨β1, β2, rfl, rfl⟩; exact ⟨inferInstance, inferInstance⟩)
set_option maxRecDepth 100000 in
set_option maxHeartbeats 4000000 in
theorem graph_Degrees_spec (g : Graph) {out : (List Int) × (List Int) × Int} (H : graph_Degrees_F g = some out) : Does Tryd.prog 29 [.ag 2 (nth [.v (.int .i64 g.n), slD g.as])] [] (graph_Degrees_P out) := by
 unfold graph_Degrees_F at H
 refine Does.intro Tryd.func29 rfl Tryd.ntmps29 rfl fun w0 I0 tb0 => ?_
 refine Qj (Qc ?_)
 refine Jq (ef_boxAg rfl rfl) (fun β1 => ?_)
 refine Qa (Qi rfl rfl) ?_
 refine Qa (Qi rfl rfl) ?_
 refine Qa (Qi rfl rfl) ?_
 refine Qo (Qe (Qj (Qj (Qc ?_))))
 refine Qa (ps_loadAg rfl Qw Qw Qh rfl rfl) ?_
 have hb := Jd H; clear H
 obtain ⟨r2, e3, H⟩ := hb
 refine GoO.effC (ef_call rfl (Qm _) (Qm _) (graph_CheckLong_spec g e3) (Qq (Lend.agA ⟨⟨Qs, Qp _ _⟩, Qp _ _⟩) (Qz)) rfl (graph_CheckLong_I (r2))) (fun rr HH hp => ?_)
 obtain ⟨rfl, rfl⟩ := hp
 refine Qa (Qi rfl rfl) ?_
 refine Qo (Qe (Qj (Qc ?_)))
 refine Qa (Ql rfl rfl) ?_
 refine Qa (ps_neq rfl rfl rfl) ?_
 refine Qo (Qe ?_)
 refine Jc rfl (fun h4 => ?_) (fun h4 => ?_)
 replace H := Jt h4 H
 refine Qj (Qc ?_)
 refine Qa (Ql rfl rfl) ?_
 refine Qa (Qi rfl rfl) ?_
 refine Qa (Qi rfl rfl) ?_
 refine Qa (Qi rfl rfl) ?_
 refine Qo (Qe ?_)
 obtain rfl := Qf H
 refine GoC.le (le_row0 3 1 (row ([] : List Int)) rfl) ?_
 refine GoC.le (le_row0 3 1 (row ([] : List Int)) rfl) ?_
 exact Jh (ds := [.own ⟨0, 0, 0⟩ 1 0 0, .own ⟨0, 0, 0⟩ 1 0 0, .v (.int .i64 r2)]) Tryd.results29 (Qt (ResD.le (Qv rfl) (by exact DLe.nilOwn)) (Qt (ResD.le (Qv rfl) (by exact DLe.nilOwn)) (Qt (Qv rfl) (Je)))) (Qd _ _ _ _ _ Jk (Qd _ _ _ _ _ Qk (Qm _))) ⟨⟨0, 0, 0⟩, ⟨0, 0, 0⟩, rfl, rfl⟩
 replace H := Ju h4 H
 refine Jg (Qe (Qj ?_))
 refine GoC.drawA (.q 0 (.q 1 (.q 3 (.q 4 (.two 2 5 (.q 6 (.one 5 (.q 7 (.done)))) (.one 2 (.q 6 (.q 7 (.done))))))))) follows (by kernel_rfl) ?_
 refine Qx rfl (Qu rfl rfl) ?_
 refine Qx rfl (Jf rfl Qw Qw Qh rfl rfl) ?_
 refine Qx rfl (Qu rfl rfl) ?_
 refine Qx rfl (Jf rfl Qw Qw Qh rfl rfl) ?_
 have c6 := ck_l H; replace H := ck_r H
 apply GoP.fork2
 exact rfl
 exact rfl
 exact Qs
 exact Qs
 exact ef_makeZ rfl rfl c6 rfl rfl rfl
 exact ef_makeZ rfl rfl c6 rfl rfl rfl
 exact (Qd _ _ _ _ _ Qk (Qm _))
 exact (Qd _ _ _ _ _ Qk (Qm _))
 intro hQ
 rintro _ ⟨β8, rfl⟩
 refine GoP.leD (Le.reH Qw (HLe.zeros (α := Int) ⟨Qs, Qb _⟩)) ?_
 refine Qx rfl (Qi rfl rfl) ?_
 refine GoP.oneB rfl Qs (ef_makeZ rfl rfl c6 rfl rfl rfl) (Qd _ _ _ _ _ Jk (Qm _)) (fun β10 => ?_)
 refine GoP.leD (Le.reH Qw (HLe.zeros (α := Int) ⟨Qs, Qb _⟩)) ?_
 refine Qx rfl (Qi rfl rfl) ?_
 exact GoP.done (hQ β8 β10)
 intro hQ
 rintro _ ⟨β9, rfl⟩
 refine GoP.leD (Le.reH Qw (HLe.zeros (α := Int) ⟨Qs, Qb _⟩)) ?_
 refine GoP.oneB rfl Qs (ef_makeZ rfl rfl c6 rfl rfl rfl) (Qd _ _ _ _ _ Jk (Qm _)) (fun β11 => ?_)
 refine GoP.leD (Le.reH Qw (HLe.zeros (α := Int) ⟨Qs, Qb _⟩)) ?_
 refine Qx rfl (Qi rfl rfl) ?_
 refine Qx rfl (Qi rfl rfl) ?_
 refine GoP.done (GoK.le ?_ (hQ β11 β9))
 refine Le.ofDW ?_ (Qn _ _ _ _ _ Jk (Qr _) (Qn _ _ _ _ _ Qk (Qr _) (Qn _ _ _ _ _ Qk (Qr _) (Jb _))))
 repeat (first | exact EnvLeW.nil | refine EnvLeW.cons rfl ?_ | refine EnvLeW.skip rfl ?_)
 intro β8 β10
 refine Qe (Qj (Qj (Qc ?_)))
 refine Qa (Qu rfl rfl) ?_
 refine Qa (Jf rfl At.p2 At.p2 Qh rfl rfl) ?_
 refine Qa (ps_len rfl (by constructor) rfl) ?_
 refine GoO.lenLe (n := g.as.length) (x := .tmp 22) rfl (by constructor) sl_lenLe (fun ml12 => ?_)
 refine Qa (Ql rfl rfl) ?_
 refine Qo (Qe ?_)
 have hb := Jd H; clear H
 obtain ⟨⟨l18, l19⟩, hl27, HK15⟩ := hb
 refine GoC.blockJ [] [.one β1 64 2 (st1 (nth [.v (.int .i64 g.n), slD g.as]))] (fun v h => v = [(6, .own β8 1 0 l18.length), (7, .own β10 1 0 l19.length)] ∧ h = [.one β8 3 1 (row l18), .one β10 3 1 (row l19)]) ?_ ?_
 refine GoC.loopJ [(22, _), (23, _)] [.one β1 64 2 (st1 (nth [.v (.int .i64 g.n), slD g.as]))] (fun mQ v h => ∃ (k20 : Nat) (l13 : (List Int)) (l14 : (List Int)), (k20 + mQ = g.as.length ∧ forN (graph_Degrees_B1 g) mQ k20 (l13, l14) = some (l18, l19)) ∧ v = [(24, .v (.int .i64 ((k20 : Nat) : Int))), (6, .own β8 1 0 l13.length), (7, .own β10 1 0 l14.length)] ∧ h = [.one β8 3 1 (row l13), .one β10 3 1 (row l14)]) g.as.length ⟨_, _, _, ⟨by omega, hl27⟩, rfl, rfl⟩ (Qg rfl (Jm rfl (Jp (by first | rfl | omega | (simp only [row_len, gridC_len, rowO_len, List.length_replicate] <;> first | rfl | omega))) (Jm rfl (Jp (by first | rfl | omega | (simp only [row_len, gridC_len, rowO_len, List.length_replicate] <;> first | rfl | omega))) (Qg rfl (Qg rfl (Qy)))))) (Qn _ _ _ _ _ Jk (Qr _) (Qn _ _ _ _ _ Qk (Qr _) (Qn _ _ _ _ _ Qk (Jj ⟨⟨Qs, Qb _⟩, Qb _⟩) (Jb _)))) ?_
 rintro m21 v h ⟨k20, l13, l14, ⟨hkk20, hF16⟩, rfl, rfl⟩
 refine Qj (Qc ?_)
 refine Qa (ps_lss rfl rfl rfl) ?_
 refine Qo (Qe (Qj ?_))
 refine Jc rfl (fun (hk20 : (k20 : Int) < ((g.as.length : Nat) : Int)) => ?_) (fun (hk20 : ¬ (k20 : Int) < ((g.as.length : Nat) : Int)) => ?_)
 obtain ⟨m21', rfl⟩ : ∃ x, m21 = x + 1 := ⟨m21 - 1, by omega⟩
 have hb := Jd hF16; clear hF16
 obtain ⟨qrm21, H, hF16⟩ := hb
 have hnk20 : k20 < g.as.length := by omega
 have hIk20 : InI ((k20 : Int) + 1) := inI_len hk20 ml12
 refine Jg (Qe (Qj (GoC.block (Qj (Qc ?_)))))
 refine Qa (ps_indexAddrRN rfl rfl hnk20 rfl) ?_
 refine Qa (ps_loadAgR rfl hnk20 rfl rfl) ?_
 refine Jq (ef_alloc rfl) (fun β22 => ?_)
 refine GoO.eff1 (ef_storeAg rfl rfl Qw upd_whole Qh rfl) ?_
 refine Qo (Qe (Qj (Qc ?_)))
 refine Qa (Ql rfl rfl) ?_
 refine Qa (Qu rfl rfl) ?_
 refine Qa (Jf rfl Qw Qw Qh rfl rfl) ?_
 have c23 := ck_l H; replace H := ck_r H
 refine Qa (ps_indexAddr0 rfl rfl c23 rfl) ?_
 refine Qa (Jf rfl Js Js (idx_lt c23) rfl rfl) ?_
 have c24 := ck_l H; replace H := ck_r H
 refine Qa (ps_add rfl rfl rfl c24) ?_
 refine Qa (ps_indexAddr0 rfl rfl c23 rfl) ?_
 refine GoO.eff1 (ef_store rfl rfl rfl Js (upd_row1 (v := ((l13.getD (((g.as.getD k20 El.d).f).toNat) (0 : Int)) + 1)) rfl) (idx_lt c23) rfl) ?_
 refine Qo (Qe (Qc ?_))
 refine Qa (Ql rfl rfl) ?_
 refine Qa (Qu rfl rfl) ?_
 refine Qa (Jf rfl Qw Qw Qh rfl rfl) ?_
 have c25 := ck_l H; replace H := ck_r H
 refine Qa (ps_indexAddr0 rfl rfl c25 rfl) ?_
 refine Qa (Jf rfl At.p2 At.p2 (idx_lt c25) rfl rfl) ?_
 have c26 := ck_l H; replace H := ck_r H
 refine Qa (ps_add rfl rfl rfl c26) ?_
 refine Qa (ps_indexAddr0 rfl rfl c25 rfl) ?_
 refine GoO.eff1 (ef_store rfl rfl rfl At.p2 (upd_row1 (v := ((l14.getD (((g.as.getD k20 El.d).t).toNat) (0 : Int)) + 1)) rfl) (idx_lt c25) rfl) ?_
 refine Qo (GoK.blk (Qe (Qc ?_)))
 refine Qa (ps_add rfl rfl rfl hIk20) ?_
 refine Qa (Ql rfl rfl) ?_
 refine Qo ?_
 obtain rfl := Qf H
 exact GoK.againJ m21' (by omega) ⟨_, _, _, ⟨by omega, hF16⟩, rfl, rfl⟩ (Qg rfl (Jm rfl (Jp (by first | rfl | omega | (simp only [row_len, gridC_len, rowO_len, List.length_set] <;> first | rfl | omega))) (Jm rfl (Jp (by first | rfl | omega | (simp only [row_len, gridC_len, rowO_len, List.length_set] <;> first | rfl | omega))) (Qg rfl (Qg rfl (Qy)))))) (Qn _ _ _ _ _ Jk (Qr _) (Qn _ _ _ _ _ Jk (Qr _) (Qn _ _ _ _ _ Jk (Jj ⟨⟨Qs, Qb _⟩, Qb _⟩) (Jb _))))
 obtain rfl : m21 = 0 := by omega
 refine GoC.exit rfl ?_
 cases hF16
 exact Jr ⟨rfl, rfl⟩ (Jm rfl (Jp (by first | rfl | omega | (simp only [row_len, gridC_len, rowO_len] <;> first | rfl | omega))) (Jm rfl (Jp (by first | rfl | omega | (simp only [row_len, gridC_len, rowO_len] <;> first | rfl | omega))) (Qy))) (Qn _ _ _ _ _ Qk (Qr _) (Qn _ _ _ _ _ Qk (Qr _) (Qn _ _ _ _ _ Qk (Jj ⟨⟨Qs, Qb _⟩, Qb _⟩) (Jb _))))
 rintro v h ⟨rfl, rfl⟩
 have H := HK15; clear HK15
 refine Qe (Qj (Qc ?_))
 refine Qa (Ql rfl rfl) ?_
 refine Qa (Ql rfl rfl) ?_
 refine Qa (Qi rfl rfl) ?_
 refine Qa (Qi rfl rfl) ?_
 refine Qa (Qi rfl rfl) ?_
 refine Qo (Qe ?_)
 obtain rfl := Qf H
 exact Jh (ds := [.own β8 1 0 l18.length, .own β10 1 0 l19.length, .v (.int .i64 0)]) Tryd.results29 (Qt (Qv rfl) (Qt (Qv rfl) (Qt (Qv rfl) (Je)))) (Qd _ _ _ _ _ Qk (Qd _ _ _ _ _ Qk (Qm _))) ⟨β8, β10, rfl, rfl⟩
end Go.Proofs.YthchdnemndolbaaDoor
