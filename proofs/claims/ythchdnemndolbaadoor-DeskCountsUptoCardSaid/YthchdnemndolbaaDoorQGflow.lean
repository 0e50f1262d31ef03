import Derived.Test.YthchdnemndolbaaDoorQTys
import Derived.Test.YthchdnemndolbaaDoorQDat
import Derived.Test.YthchdnemndolbaaDoorQGgraph
import Derived.Test.YthchdnemndolbaaDoorQGslices
namespace Go.Proofs.YthchdnemndolbaaDoor
open Go Go.Proofs.YthchdnemndolbaaDoor.Sx
set_option linter.unusedVariables false
set_option linter.unusedSimpArgs false
def flow_Check_B1 (n : Net) (f : (List Int)) : Nat → (Nat → Int) → Option (Ct ((Nat → Int)) (Int)) := fun k14 f9 =>
 if (f.getD k14 (0 : Int)) < 0 then
  some (.ret 7)
 else
  ck (k14 < n.as.length) <|
  if ((n.as.getD k14 El.d).c) < (f.getD k14 (0 : Int)) then
   some (.ret 7)
  else
   ck (0 ≤ (n.as.getD k14 El.d).f ∧ (n.as.getD k14 El.d).f < 12) <|
   ck (InI ((f9 (((n.as.getD k14 El.d).f).toNat)) - (f.getD k14 (0 : Int)))) <|
   ck (0 ≤ (n.as.getD k14 El.d).t ∧ (n.as.getD k14 El.d).t < 12) <|
   ck (InI (((updF f9 (((n.as.getD k14 El.d).f).toNat) ((f9 (((n.as.getD k14 El.d).f).toNat)) - (f.getD k14 (0 : Int)))) (((n.as.getD k14 El.d).t).toNat)) + (f.getD k14 (0 : Int)))) <|
   some (.go (updF (updF f9 (((n.as.getD k14 El.d).f).toNat) ((f9 (((n.as.getD k14 El.d).f).toNat)) - (f.getD k14 (0 : Int)))) (((n.as.getD k14 El.d).t).toNat) (((updF f9 (((n.as.getD k14 El.d).f).toNat) ((f9 (((n.as.getD k14 El.d).f).toNat)) - (f.getD k14 (0 : Int)))) (((n.as.getD k14 El.d).t).toNat)) + (f.getD k14 (0 : Int)))))
def flow_Check_B2 (n : Net) (f13 : (Nat → Int)) : Nat → Unit → Option (Ct (Unit) (Int)) := fun k27 _ =>
 if (f13 k27) ≠ 0 then
  if ((k27 : Nat) : Int) ≠ n.s then
   if ((k27 : Nat) : Int) ≠ n.t then
    some (.ret 8)
   else
    some (.go ())
  else
   some (.go ())
 else
  some (.go ())
def flow_Check_F (n : Net) (f : (List Int)) : Option (Int) :=
 (graph_CheckNet_F n).bind fun r2 =>
 if r2 ≠ 0 then
  some r2
 else
  if ((f.length : Nat) : Int) ≠ ((n.as.length : Nat) : Int) then
   some 3
  else
   (forC (flow_Check_B1 n f) f.length 0 (fun _ => (0 : Int) : Nat → Int)).bind fun q => match q with
   | .go f13 =>
    (forC (flow_Check_B2 n f13) 12 0 ()).bind fun q => match q with
    | .go _ =>
     some 0
    | .ret x => some x
   | .ret x => some x
def flow_Check_P (out : Int) (d : D) (H : List HL) : Prop := d = .v (.int .i64 out) ∧ H = []
theorem flow_Check_I (out : Int) : IndepP (flow_Check_P out) := IndepP.of (by rintro _ _ ⟨rfl, rfl⟩; exact ⟨inferInstance, inferInstance⟩)
set_option maxRecDepth 100000 in
set_option maxHeartbeats 4000000 in
theorem flow_Check_spec (n : Net) (f : (List Int)) {out : Int} (H : flow_Check_F n f = some out) : Does Tryd.prog 96 [.ag 4 (nth [.v (.int .i64 n.n), .v (.int .i64 n.s), .v (.int .i64 n.t), slD n.as]), slD f] [] (flow_Check_P out) := by
 unfold flow_Check_F at H
 refine Does.intro Tryd.func96 rfl Tryd.ntmps96 rfl fun w0 I0 tb0 => ?_
 refine Qj (Qc ?_)
 refine Jq (ef_boxAg rfl rfl) (fun β1 => ?_)
 refine Qa (Qi rfl rfl) ?_
 refine Qo (Qe (Qj (Qj (Qc ?_))))
 refine Qa (ps_loadAg rfl Qw Qw Qh rfl rfl) ?_
 have hb := Jd H; clear H
 obtain ⟨r2, e3, H⟩ := hb
 refine GoO.effC (ef_call rfl (Qm _) (Qm _) (graph_CheckNet_spec n e3) (Qq (Lend.agA ⟨⟨⟨⟨Qs, Qp _ _⟩, Qp _ _⟩, Qp _ _⟩, Qp _ _⟩) (Qz)) rfl (graph_CheckNet_I (r2))) (fun rr HH hp => ?_)
 obtain ⟨rfl, rfl⟩ := hp
 refine Qa (Qi rfl rfl) ?_
 refine Qo (Qe (Qj (Qc ?_)))
 refine Qa (Ql rfl rfl) ?_
 refine Qa (ps_neq rfl rfl rfl) ?_
 refine Qo (Qe ?_)
 refine Jc rfl (fun h4 => ?_) (fun h4 => ?_)
 replace H := Jt h4 H
 refine Qj (Qc ?_)
 refine Qa (Ql rfl rfl) ?_
 refine Qa (Qi rfl rfl) ?_
 refine Qo (Qe ?_)
 obtain rfl := Qf H
 exact Jh (ds := [.v (.int .i64 r2)]) Tryd.results96 (Qt (Qv rfl) (Je)) (Qm _) ⟨rfl, rfl⟩
 replace H := Ju h4 H
 refine Jg (Qe (Qj (Qj (Qc ?_))))
 refine Qa (Ql rfl rfl) ?_
 refine Qa (ps_len rfl (by constructor) rfl) ?_
 refine GoO.lenLe (n := f.length) (x := .tmp 16) rfl (by constructor) sl_lenLe (fun ml5 => ?_)
 refine Qa (Qu rfl rfl) ?_
 refine Qa (Jf rfl Qw Qw Qh rfl rfl) ?_
 refine Qa (ps_len rfl (by constructor) rfl) ?_
 refine GoO.lenLe (n := n.as.length) (x := .tmp 19) rfl (by constructor) sl_lenLe (fun ml6 => ?_)
 refine Qa (ps_neq rfl rfl rfl) ?_
 refine Qo (Qe ?_)
 refine Jc rfl (fun h7 => ?_) (fun h7 => ?_)
 replace H := Jt h7 H
 refine Qj (Qc ?_)
 refine Qa (Qi rfl rfl) ?_
 refine Qo (Qe ?_)
 obtain rfl := Qf H
 exact Jh (ds := [.v (.int .i64 3)]) Tryd.results96 (Qt (Qv rfl) (Je)) (Qm _) ⟨rfl, rfl⟩
 replace H := Ju h7 H
 refine Jg (Qe (Qj (Qc ?_)))
 refine Jq (ef_alloc rfl) (fun β8 => ?_)
 refine GoO.le (Le.reH Qw (HLe.arr (α := Int) (pre := []) (g := fun _ => (0 : Int)) ⟨⟨⟨⟨⟨⟨⟨⟨⟨⟨⟨⟨Qs, Qb _⟩, Qb _⟩, Qb _⟩, Qb _⟩, Qb _⟩, Qb _⟩, Qb _⟩, Qb _⟩, Qb _⟩, Qb _⟩, Qb _⟩, Qb _⟩)) ?_
 refine Qo (Qe (Qj (Qj (Qc ?_))))
 refine Qa (Ql rfl rfl) ?_
 refine Qa (ps_len rfl (by constructor) rfl) ?_
 refine Qa (Ql rfl rfl) ?_
 refine Qo (Qe ?_)
 have hb := Jd H; clear H
 obtain ⟨q12, hl23, HK10⟩ := hb
 refine GoC.blockJ [(2, .ptr β1 4 0 0)] [.one β1 42 4 (st1 (nth [.v (.int .i64 n.n), .v (.int .i64 n.s), .v (.int .i64 n.t), slD n.as]))] (fun v h => ∃ (f13 : (Nat → Int)), q12 = .go f13 ∧ v = [(6, .ptr β8 12 0 0)] ∧ h = [.one β8 157 12 (arrC (α := Int) [] f13)]) ?_ ?_
 refine GoC.loopJ [(2, _), (22, _), (23, _)] [.one β1 42 4 (st1 (nth [.v (.int .i64 n.n), .v (.int .i64 n.s), .v (.int .i64 n.t), slD n.as]))] (fun mQ v h => ∃ (k14 : Nat) (f9 : (Nat → Int)), (k14 + mQ = f.length ∧ forC (flow_Check_B1 n f) mQ k14 f9 = some q12) ∧ v = [(24, .v (.int .i64 ((k14 : Nat) : Int))), (6, .ptr β8 12 0 0)] ∧ h = [.one β8 157 12 (arrC (α := Int) [] f9)]) f.length ⟨_, _, ⟨by omega, hl23⟩, rfl, rfl⟩ (Qg rfl (Qg rfl (Qg rfl (Qg rfl (Qg rfl (Qy)))))) (Qn _ _ _ _ _ Qk (Qr _) (Qn _ _ _ _ _ Qk (Jj ⟨⟨⟨⟨Qs, Qb _⟩, Qb _⟩, Qb _⟩, Qb _⟩) (Jb _))) ?_
 rintro m15 v h ⟨k14, f9, ⟨hkk14, hF11⟩, rfl, rfl⟩
 refine Qj (Qc ?_)
 refine Qa (ps_lss rfl rfl rfl) ?_
 refine Qo (Qe (Qj ?_))
 refine Jc rfl (fun (hk14 : (k14 : Int) < ((f.length : Nat) : Int)) => ?_) (fun (hk14 : ¬ (k14 : Int) < ((f.length : Nat) : Int)) => ?_)
 obtain ⟨m15', rfl⟩ : ∃ x, m15 = x + 1 := ⟨m15 - 1, by omega⟩
 have hb := Jd hF11; clear hF11
 obtain ⟨qrm15, H, hF11⟩ := hb
 have hnk14 : k14 < f.length := by omega
 have hIk14 : InI ((k14 : Int) + 1) := inI_len hk14 ml5
 refine Jg (Qe (Qj (GoC.block (Qj (Qc ?_)))))
 refine Qa (Ql rfl rfl) ?_
 refine Qa (ps_indexAddrRN rfl rfl hnk14 rfl) ?_
 refine Qa (ps_loadR rfl hnk14 rfl rfl) ?_
 refine Qa (Qi rfl rfl) ?_
 refine Qa (Qi rfl rfl) ?_
 refine Qo (Qe (Qj (Qj (Qc ?_))))
 refine Qa (Ql rfl rfl) ?_
 refine Qa (ps_lss rfl rfl rfl) ?_
 refine Qa (Ql rfl rfl) ?_
 refine GoO.guardE rfl rfl rfl rfl (fun h16 => ?_) (fun h16 => ?_)
 replace H := Ju h16 H
 refine Qa (Ql rfl rfl) ?_
 refine Jl rfl rfl rfl ?_
 refine Qa (Qu rfl rfl) ?_
 refine Jl rfl rfl rfl ?_
 refine Qa (Jf rfl Js Js Qh rfl rfl) ?_
 refine Jl rfl rfl rfl ?_
 refine Qa (Ql rfl rfl) ?_
 refine Jl rfl rfl rfl ?_
 have c17 := ck_l H; replace H := ck_r H
 refine Qa (ps_indexAddrRN rfl rfl c17 rfl) ?_
 refine Jl rfl rfl rfl ?_
 refine Qa (ps_fieldAddrR rfl rfl) ?_
 refine Jl rfl rfl rfl ?_
 refine Qa (ps_loadR rfl c17 rfl rfl) ?_
 refine Jl rfl rfl rfl ?_
 refine Qa (ps_gtr rfl rfl rfl) ?_
 refine Qa (ps_pickF rfl rfl rfl) ?_
 refine Qo (Qe ?_)
 refine Jc rfl (fun h18 => ?_) (fun h18 => ?_)
 replace H := Jt h18 H
 refine Qj (Qc ?_)
 refine Qa (Qi rfl rfl) ?_
 refine Qo (Qe ?_)
 obtain rfl := Qf H
 obtain rfl := Qf hF11
 obtain rfl := Qf HK10
 exact Jh (ds := [.v (.int .i64 7)]) Tryd.results96 (Qt (Qv rfl) (Je)) (Qm _) ⟨rfl, rfl⟩
 replace H := Ju h18 H
 refine Jg (Qe (Qj (Qc ?_)))
 refine Qa (Qu rfl rfl) ?_
 refine Qa (Jf rfl Js Js Qh rfl rfl) ?_
 refine Qa (Ql rfl rfl) ?_
 refine Qa (ps_indexAddrRN rfl rfl c17 rfl) ?_
 refine Qa (ps_fieldAddrR rfl rfl) ?_
 refine Qa (ps_loadR rfl c17 rfl rfl) ?_
 have c19 := ck_l H; replace H := ck_r H
 refine Qa (ps_indexAddrA rfl rfl c19 rfl) ?_
 refine Qa (ps_loadA (α := Int) (i := ((n.as.getD k14 El.d).f).toNat) (off := 0) rfl Qw Qw (by simp only [show El.size Int = 1 from rfl, List.length_cons, List.length_nil, eldI]; omega) (idx_lt (n := 12) c19) rfl rfl rfl) ?_
 refine Qa (Ql rfl rfl) ?_
 have c20 := ck_l H; replace H := ck_r H
 refine Qa (ps_sub rfl rfl rfl c20) ?_
 refine Qa (ps_indexAddrA rfl rfl c19 rfl) ?_
 refine GoO.eff1 (ef_store rfl rfl rfl Qw (upd_arr1 (α := Int) (i := ((n.as.getD k14 El.d).f).toNat) (v := ((f9 (((n.as.getD k14 El.d).f).toNat)) - (f.getD k14 (0 : Int)))) rfl (by simp only [show El.size Int = 1 from rfl, List.length_cons, List.length_nil, eldI]; omega) rfl) Qh (blt_of (arr_lt (α := Int) (pre := []) (i := ((n.as.getD k14 El.d).f).toNat) (off := 0) (by simp only [show El.size Int = 1 from rfl, List.length_cons, List.length_nil, eldI]; omega) (idx_lt (n := 12) c19) (by decide) rfl))) ?_
 refine Qo (Qe (Qc ?_))
 refine Qa (Qu rfl rfl) ?_
 refine Qa (Jf rfl Js Js Qh rfl rfl) ?_
 refine Qa (Ql rfl rfl) ?_
 refine Qa (ps_indexAddrRN rfl rfl c17 rfl) ?_
 refine Qa (ps_fieldAddrR rfl rfl) ?_
 refine Qa (ps_loadR rfl c17 rfl rfl) ?_
 have c21 := ck_l H; replace H := ck_r H
 refine Qa (ps_indexAddrA rfl rfl c21 rfl) ?_
 refine Qa (ps_loadA (α := Int) (i := ((n.as.getD k14 El.d).t).toNat) (off := 0) rfl Qw Qw (by simp only [show El.size Int = 1 from rfl, List.length_cons, List.length_nil, eldI]; omega) (idx_lt (n := 12) c21) rfl rfl rfl) ?_
 refine Qa (Ql rfl rfl) ?_
 have c22 := ck_l H; replace H := ck_r H
 refine Qa (ps_add rfl rfl rfl c22) ?_
 refine Qa (ps_indexAddrA rfl rfl c21 rfl) ?_
 refine GoO.eff1 (ef_store rfl rfl rfl Qw (upd_arr1 (α := Int) (i := ((n.as.getD k14 El.d).t).toNat) (v := (((updF f9 (((n.as.getD k14 El.d).f).toNat) ((f9 (((n.as.getD k14 El.d).f).toNat)) - (f.getD k14 (0 : Int)))) (((n.as.getD k14 El.d).t).toNat)) + (f.getD k14 (0 : Int)))) rfl (by simp only [show El.size Int = 1 from rfl, List.length_cons, List.length_nil, eldI]; omega) rfl) Qh (blt_of (arr_lt (α := Int) (pre := []) (i := ((n.as.getD k14 El.d).t).toNat) (off := 0) (by simp only [show El.size Int = 1 from rfl, List.length_cons, List.length_nil, eldI]; omega) (idx_lt (n := 12) c21) (by decide) rfl))) ?_
 refine Qo (GoK.blk (Qe (Qc ?_)))
 refine Qa (ps_add rfl rfl rfl hIk14) ?_
 refine Qa (Ql rfl rfl) ?_
 refine Qo ?_
 obtain rfl := Qf H
 exact GoK.againJ m15' (by omega) ⟨_, _, ⟨by omega, hF11⟩, rfl, rfl⟩ (Qg rfl (Qg rfl (Qg rfl (Qg rfl (Qg rfl (Qy)))))) (Qn _ _ _ _ _ Qk (Qr _) (Qn _ _ _ _ _ Qk (Jj ⟨⟨⟨⟨Qs, Qb _⟩, Qb _⟩, Qb _⟩, Qb _⟩) (Jb _)))
 replace H := Jt h16 H
 refine Ja rfl rfl rfl rfl ?_
 refine Ja rfl rfl rfl rfl ?_
 refine Ja rfl rfl rfl rfl ?_
 refine Ja rfl rfl rfl rfl ?_
 refine Ja rfl rfl rfl rfl ?_
 refine Ja rfl rfl rfl rfl ?_
 refine Ja rfl rfl rfl rfl ?_
 refine Qa (ps_pickT rfl rfl rfl) ?_
 refine Qo (Qe ?_)
 refine GoC.condT rfl ?_
 refine Qj (Qc ?_)
 refine Qa (Qi rfl rfl) ?_
 refine Qo (Qe ?_)
 obtain rfl := Qf H
 obtain rfl := Qf hF11
 obtain rfl := Qf HK10
 exact Jh (ds := [.v (.int .i64 7)]) Tryd.results96 (Qt (Qv rfl) (Je)) (Qm _) ⟨rfl, rfl⟩
 obtain rfl : m15 = 0 := by omega
 refine GoC.exit rfl ?_
 cases hF11
 exact Jr ⟨_, rfl, rfl, rfl⟩ (Qg rfl (Qg rfl (Qy))) (Qn _ _ _ _ _ Qk (Qr _) (Qn _ _ _ _ _ Qk (Jj ⟨⟨⟨⟨Qs, Qb _⟩, Qb _⟩, Qb _⟩, Qb _⟩) (Jb _)))
 rintro v h ⟨f13, rfl, rfl, rfl⟩
 have H := HK10; clear HK10
 refine Qe (Qj (Qj (Qc ?_)))
 refine Qa (ps_loadAg rfl Qw Qw Qh rfl rfl) ?_
 refine GoO.le (Le.re 64 rfl (DLe.arrV (α := Int) (g := f13))) ?_
 refine Qa (Ql rfl rfl) ?_
 refine Qo (Qe ?_)
 have hb := Jd H; clear H
 obtain ⟨q26, hl32, HK24⟩ := hb
 refine GoC.blockJ [] [.one β8 157 12 (arrC (α := Int) [] f13), .one β1 42 4 (st1 (nth [.v (.int .i64 n.n), .v (.int .i64 n.s), .v (.int .i64 n.t), slD n.as]))] (fun v h => q26 = .go () ∧ v = [] ∧ h = []) ?_ ?_
 refine GoC.loopJ [(2, _), (64, _)] [.one β8 157 12 (arrC (α := Int) [] f13), .one β1 42 4 (st1 (nth [.v (.int .i64 n.n), .v (.int .i64 n.s), .v (.int .i64 n.t), slD n.as]))] (fun mQ v h => ∃ (k27 : Nat), (k27 + mQ = 12 ∧ forC (flow_Check_B2 n f13) mQ k27 () = some q26) ∧ v = [(65, .v (.int .i64 ((k27 : Nat) : Int)))] ∧ h = []) 12 ⟨_, ⟨by omega, hl32⟩, rfl, rfl⟩ (Qg rfl (Qg rfl (Qg rfl (Qy)))) (Qn _ _ _ _ _ Qk (Qr _) (Qn _ _ _ _ _ Qk (Jj ⟨⟨⟨⟨Qs, Qb _⟩, Qb _⟩, Qb _⟩, Qb _⟩) (Jb _))) ?_
 rintro m28 v h ⟨k27, ⟨hkk27, hF25⟩, rfl, rfl⟩
 refine Qj (Qc ?_)
 refine Qa (ps_lss rfl rfl rfl) ?_
 refine Qo (Qe (Qj ?_))
 refine Jc rfl (fun (hk27 : (k27 : Int) < ((12 : Nat) : Int)) => ?_) (fun (hk27 : ¬ (k27 : Int) < ((12 : Nat) : Int)) => ?_)
 obtain ⟨m28', rfl⟩ : ∃ x, m28 = x + 1 := ⟨m28 - 1, by omega⟩
 have hb := Jd hF25; clear hF25
 obtain ⟨qrm28, H, hF25⟩ := hb
 have hnk27 : k27 < 12 := by omega
 have hIk27 : InI ((k27 : Int) + 1) := inI_cnt hk27 (by unfold InI; omega)
 refine Jg (Qe (Qj (GoC.block (Qj (Qc ?_)))))
 refine Qa (Ql rfl rfl) ?_
 refine Qa (ps_indexV (α := Int) rfl rfl ⟨Int.natCast_nonneg _, Int.ofNat_lt.2 hnk27⟩ rfl rfl rfl) ?_
 refine Qa (Qi rfl rfl) ?_
 refine Qa (Qi rfl rfl) ?_
 refine Qo (Qe (Qj (Qc ?_)))
 refine Qa (Ql rfl rfl) ?_
 refine Qa (ps_neq rfl rfl rfl) ?_
 refine Qa (Ql rfl rfl) ?_
 refine GoO.guardD rfl rfl rfl rfl (fun h29 => ?_) (fun h29 => ?_)
 replace H := Jt h29 H
 refine Qa (Ql rfl rfl) ?_
 refine Jl rfl rfl rfl ?_
 refine Qa (Qu rfl rfl) ?_
 refine Jl rfl rfl rfl ?_
 refine Qa (Jf rfl Js Js Qh rfl rfl) ?_
 refine Jl rfl rfl rfl ?_
 refine Qa (ps_neq rfl rfl rfl) ?_
 refine Qa (ps_pickT rfl rfl rfl) ?_
 refine Qa (Ql rfl rfl) ?_
 refine GoO.guardD rfl rfl rfl rfl (fun h30 => ?_) (fun h30 => ?_)
 replace H := Jt h30 H
 refine Qa (Ql rfl rfl) ?_
 refine Jl rfl rfl rfl ?_
 refine Qa (Qu rfl rfl) ?_
 refine Jl rfl rfl rfl ?_
 refine Qa (Jf rfl Js Js Qh rfl rfl) ?_
 refine Jl rfl rfl rfl ?_
 refine Qa (ps_neq rfl rfl rfl) ?_
 refine Qa (ps_pickT rfl rfl rfl) ?_
 refine Qo (Qe ?_)
 refine Jc rfl (fun h31 => ?_) (fun h31 => ?_)
 replace H := Jt h31 H
 refine Qj (Qc ?_)
 refine Qa (Qi rfl rfl) ?_
 refine Qo (Qe ?_)
 obtain rfl := Qf H
 obtain rfl := Qf hF25
 obtain rfl := Qf HK24
 exact Jh (ds := [.v (.int .i64 8)]) Tryd.results96 (Qt (Qv rfl) (Je)) (Qm _) ⟨rfl, rfl⟩
 replace H := Ju h31 H
 refine Jg (GoK.blk (Qe (Qc ?_)))
 refine Qa (ps_add rfl rfl rfl hIk27) ?_
 refine Qa (Ql rfl rfl) ?_
 refine Qo ?_
 obtain rfl := Qf H
 exact GoK.againJ m28' (by omega) ⟨_, ⟨by omega, hF25⟩, rfl, rfl⟩ (Qg rfl (Qg rfl (Qg rfl (Qy)))) (Qn _ _ _ _ _ Qk (Qr _) (Qn _ _ _ _ _ Qk (Jj ⟨⟨⟨⟨Qs, Qb _⟩, Qb _⟩, Qb _⟩, Qb _⟩) (Jb _)))
 replace H := Ju h30 H
 refine Ja rfl rfl rfl rfl ?_
 refine Ja rfl rfl rfl rfl ?_
 refine Ja rfl rfl rfl rfl ?_
 refine Qa (ps_pickF rfl rfl rfl) ?_
 refine Qo (Qe ?_)
 refine GoC.condF rfl ?_
 refine Jg (GoK.blk (Qe (Qc ?_)))
 refine Qa (ps_add rfl rfl rfl hIk27) ?_
 refine Qa (Ql rfl rfl) ?_
 refine Qo ?_
 obtain rfl := Qf H
 exact GoK.againJ m28' (by omega) ⟨_, ⟨by omega, hF25⟩, rfl, rfl⟩ (Qg rfl (Qg rfl (Qg rfl (Qy)))) (Qn _ _ _ _ _ Qk (Qr _) (Qn _ _ _ _ _ Qk (Jj ⟨⟨⟨⟨Qs, Qb _⟩, Qb _⟩, Qb _⟩, Qb _⟩) (Jb _)))
 replace H := Ju h29 H
 refine Ja rfl rfl rfl rfl ?_
 refine Ja rfl rfl rfl rfl ?_
 refine Ja rfl rfl rfl rfl ?_
 refine Qa (ps_pickF rfl rfl rfl) ?_
 refine Qa (Ql rfl rfl) ?_
 refine Ja rfl rfl rfl rfl ?_
 refine Ja rfl rfl rfl rfl ?_
 refine Ja rfl rfl rfl rfl ?_
 refine Ja rfl rfl rfl rfl ?_
 refine Qa (ps_pickF rfl rfl rfl) ?_
 refine Qo (Qe ?_)
 refine GoC.condF rfl ?_
 refine Jg (GoK.blk (Qe (Qc ?_)))
 refine Qa (ps_add rfl rfl rfl hIk27) ?_
 refine Qa (Ql rfl rfl) ?_
 refine Qo ?_
 obtain rfl := Qf H
 exact GoK.againJ m28' (by omega) ⟨_, ⟨by omega, hF25⟩, rfl, rfl⟩ (Qg rfl (Qg rfl (Qg rfl (Qy)))) (Qn _ _ _ _ _ Qk (Qr _) (Qn _ _ _ _ _ Qk (Jj ⟨⟨⟨⟨Qs, Qb _⟩, Qb _⟩, Qb _⟩, Qb _⟩) (Jb _)))
 obtain rfl : m28 = 0 := by omega
 refine GoC.exit rfl ?_
 cases hF25
 exact Jr ⟨rfl, rfl, rfl⟩ (Qy) (Qn _ _ _ _ _ Qk (Qr _) (Qn _ _ _ _ _ Qk (Jj ⟨⟨⟨⟨Qs, Qb _⟩, Qb _⟩, Qb _⟩, Qb _⟩) (Jb _)))
 rintro v h ⟨rfl, rfl, rfl⟩
 have H := HK24; clear HK24
 refine Qe (Qj (Qc ?_))
 refine Qa (Qi rfl rfl) ?_
 refine Qo (Qe ?_)
 obtain rfl := Qf H
 exact Jh (ds := [.v (.int .i64 0)]) Tryd.results96 (Qt (Qv rfl) (Je)) (Qm _) ⟨rfl, rfl⟩
def flow_Value_B1 (n : Net) (f : (List Int)) : Nat → Int → Option (Int) := fun k11 x6 =>
 ((
  if ((n.as.getD k11 El.d).f) = n.s then
   ck (k11 < f.length) <|
   ck (InI (x6 + (f.getD k11 (0 : Int)))) <|
   some (x6 + (f.getD k11 (0 : Int)))
  else
   some x6) : Option (Int)).bind fun x14 =>
 if ((n.as.getD k11 El.d).t) = n.s then
  ck (k11 < f.length) <|
  ck (InI (x14 - (f.getD k11 (0 : Int)))) <|
  some (x14 - (f.getD k11 (0 : Int)))
 else
  some x14
def flow_Value_F (n : Net) (f : (List Int)) : Option (Int × Int) :=
 (flow_Check_F n f).bind fun r2 =>
 if r2 ≠ 0 then
  some (0, r2)
 else
  (forN (flow_Value_B1 n f) n.as.length 0 0).bind fun x10 =>
  some (x10, 0)
def flow_Value_P (out : Int × Int) (d : D) (H : List HL) : Prop := d = .tp 2 (nth [.v (.int .i64 out.1), .v (.int .i64 out.2)]) ∧ H = []
theorem flow_Value_I (out : Int × Int) : IndepP (flow_Value_P out) := IndepP.of (by rintro _ _ ⟨rfl, rfl⟩; exact ⟨inferInstance, inferInstance⟩)
set_option maxRecDepth 100000 in
set_option maxHeartbeats 4000000 in
theorem flow_Value_spec (n : Net) (f : (List Int)) {out : Int × Int} (H : flow_Value_F n f = some out) : Does Tryd.prog 90 [.ag 4 (nth [.v (.int .i64 n.n), .v (.int .i64 n.s), .v (.int .i64 n.t), slD n.as]), slD f] [] (flow_Value_P out) := by
 unfold flow_Value_F at H
 refine Does.intro Tryd.func90 rfl Tryd.ntmps90 rfl fun w0 I0 tb0 => ?_
 refine Qj (Qc ?_)
 refine Jq (ef_boxAg rfl rfl) (fun β1 => ?_)
 refine Qa (Qi rfl rfl) ?_
 refine Qa (Qi rfl rfl) ?_
 refine Qo (Qe (Qj (Qj (Qc ?_))))
 refine Qa (ps_loadAg rfl Qw Qw Qh rfl rfl) ?_
 refine Qa (Ql rfl rfl) ?_
 have hb := Jd H; clear H
 obtain ⟨r2, e3, H⟩ := hb
 refine GoO.effC (ef_call rfl (Qm _) (Qm _) (flow_Check_spec n f e3) (Qq (Lend.agA ⟨⟨⟨⟨Qs, Qp _ _⟩, Qp _ _⟩, Qp _ _⟩, Qp _ _⟩) (Qq (Qp _ _) (Qz))) rfl (flow_Check_I (r2))) (fun rr HH hp => ?_)
 obtain ⟨rfl, rfl⟩ := hp
 refine Qa (Qi rfl rfl) ?_
 refine Qo (Qe (Qj (Qc ?_)))
 refine Qa (Ql rfl rfl) ?_
 refine Qa (ps_neq rfl rfl rfl) ?_
 refine Qo (Qe ?_)
 refine Jc rfl (fun h4 => ?_) (fun h4 => ?_)
 replace H := Jt h4 H
 refine Qj (Qc ?_)
 refine Qa (Ql rfl rfl) ?_
 refine Qa (Qi rfl rfl) ?_
 refine Qa (Qi rfl rfl) ?_
 refine Qo (Qe ?_)
 obtain rfl := Qf H
 exact Jh (ds := [.v (.int .i64 0), .v (.int .i64 r2)]) Tryd.results90 (Qt (Qv rfl) (Qt (Qv rfl) (Je))) (Qm _) ⟨rfl, rfl⟩
 replace H := Ju h4 H
 refine Jg (Qe (Qj (Qc ?_)))
 refine Qa (Qi rfl rfl) ?_
 refine Qo (Qe (Qj (Qj (Qc ?_))))
 refine Qa (Qu rfl rfl) ?_
 refine Qa (Jf rfl Qw Qw Qh rfl rfl) ?_
 refine Qa (ps_len rfl (by constructor) rfl) ?_
 refine GoO.lenLe (n := n.as.length) (x := .tmp 17) rfl (by constructor) sl_lenLe (fun ml5 => ?_)
 refine Qa (Ql rfl rfl) ?_
 refine Qo (Qe ?_)
 have hb := Jd H; clear H
 obtain ⟨x10, hl23, HK7⟩ := hb
 refine GoC.blockJ [] [.one β1 42 4 (st1 (nth [.v (.int .i64 n.n), .v (.int .i64 n.s), .v (.int .i64 n.t), slD n.as]))] (fun v h => v = [(7, .v (.int .i64 x10))] ∧ h = []) ?_ ?_
 refine GoC.loopJ [(1, _), (2, _), (17, _), (18, _)] [.one β1 42 4 (st1 (nth [.v (.int .i64 n.n), .v (.int .i64 n.s), .v (.int .i64 n.t), slD n.as]))] (fun mQ v h => ∃ (k11 : Nat) (x6 : Int), (k11 + mQ = n.as.length ∧ forN (flow_Value_B1 n f) mQ k11 x6 = some x10) ∧ v = [(19, .v (.int .i64 ((k11 : Nat) : Int))), (7, .v (.int .i64 x6))] ∧ h = []) n.as.length ⟨_, _, ⟨by omega, hl23⟩, rfl, rfl⟩ (Qg rfl (Qg rfl (Qg rfl (Qg rfl (Qg rfl (Qg rfl (Qy))))))) (Qn _ _ _ _ _ Qk (Jj ⟨⟨⟨⟨Qs, Qb _⟩, Qb _⟩, Qb _⟩, Qb _⟩) (Jb _)) ?_
 rintro m12 v h ⟨k11, x6, ⟨hkk11, hF8⟩, rfl, rfl⟩
 refine Qj (Qc ?_)
 refine Qa (ps_lss rfl rfl rfl) ?_
 refine Qo (Qe (Qj ?_))
 refine Jc rfl (fun (hk11 : (k11 : Int) < ((n.as.length : Nat) : Int)) => ?_) (fun (hk11 : ¬ (k11 : Int) < ((n.as.length : Nat) : Int)) => ?_)
 obtain ⟨m12', rfl⟩ : ∃ x, m12 = x + 1 := ⟨m12 - 1, by omega⟩
 have hb := Jd hF8; clear hF8
 obtain ⟨qrm12, H, hF8⟩ := hb
 have hnk11 : k11 < n.as.length := by omega
 have hIk11 : InI ((k11 : Int) + 1) := inI_len hk11 ml5
 refine Jg (Qe (Qj (GoC.block (Qj (Qc ?_)))))
 refine Qa (Ql rfl rfl) ?_
 refine Qa (ps_indexAddrRN rfl rfl hnk11 rfl) ?_
 refine Qa (ps_loadAgR rfl hnk11 rfl rfl) ?_
 refine Jq (ef_alloc rfl) (fun β13 => ?_)
 refine Qa (Qi rfl rfl) ?_
 refine GoO.eff1 (ef_storeAg rfl rfl Qw upd_whole Qh rfl) ?_
 refine Qo (Qe ?_)
 have hb := Jd H; clear H
 obtain ⟨x14, H, HK15⟩ := hb
 refine GoC.seqJ [(1, slD f), (2, .ptr β1 4 0 0), (8, .v (.int .i64 ((k11 : Nat) : Int))), (9, .ptr β13 3 0 0), (17, slD n.as), (18, .v (.int .i64 ((n.as.length : Nat) : Int))), (19, .v (.int .i64 ((k11 : Nat) : Int)))] [.one β13 83 3 (st1 (nth [.v (.int .i64 ((n.as.getD k11 El.d).f)), .v (.int .i64 ((n.as.getD k11 El.d).t)), .v (.int .i64 ((n.as.getD k11 El.d).c))])), .one β1 42 4 (st1 (nth [.v (.int .i64 n.n), .v (.int .i64 n.s), .v (.int .i64 n.t), slD n.as]))] (fun v h => v = [(7, .v (.int .i64 x14))] ∧ h = []) ?_ ?_
 refine Qj (Qc ?_)
 refine Qa (Qu rfl rfl) ?_
 refine Qa (Jf rfl Qw Qw Qh rfl rfl) ?_
 refine Qa (Qu rfl rfl) ?_
 refine Qa (Jf rfl Js Js Qh rfl rfl) ?_
 refine Qa (ps_eql rfl rfl rfl) ?_
 refine Qo (Qe ?_)
 refine Jc rfl (fun h17 => ?_) (fun h17 => ?_)
 replace H := Jt h17 H
 refine Qc ?_
 refine Qa (Ql rfl rfl) ?_
 refine Qa (Ql rfl rfl) ?_
 refine Qa (Ql rfl rfl) ?_
 have c18 := ck_l H; replace H := ck_r H
 refine Qa (ps_indexAddrRN rfl rfl c18 rfl) ?_
 refine Qa (ps_loadR rfl c18 rfl rfl) ?_
 have c19 := ck_l H; replace H := ck_r H
 refine Qa (ps_add rfl rfl rfl c19) ?_
 refine Qa (Qi rfl rfl) ?_
 refine Qo ?_
 cases H
 exact Jr ⟨rfl, rfl⟩ (Qg rfl (Qg rfl (Qg rfl (Qg rfl (Qg rfl (Qg rfl (Qg rfl (Qg rfl (Qy))))))))) (Qn _ _ _ _ _ Qk (Jj ⟨⟨⟨Qs, Qb _⟩, Qb _⟩, Qb _⟩) (Qn _ _ _ _ _ Qk (Jj ⟨⟨⟨⟨Qs, Qb _⟩, Qb _⟩, Qb _⟩, Qb _⟩) (Jb _)))
 replace H := Ju h17 H
 refine Jg ?_
 cases H
 exact Jr ⟨rfl, rfl⟩ (Qg rfl (Qg rfl (Qg rfl (Qg rfl (Qg rfl (Qg rfl (Qg rfl (Qg rfl (Qy))))))))) (Qn _ _ _ _ _ Qk (Jj ⟨⟨⟨Qs, Qb _⟩, Qb _⟩, Qb _⟩) (Qn _ _ _ _ _ Qk (Jj ⟨⟨⟨⟨Qs, Qb _⟩, Qb _⟩, Qb _⟩, Qb _⟩) (Jb _)))
 rintro v h ⟨rfl, rfl⟩
 have H := HK15; clear HK15
 refine Qj (Qc ?_)
 refine Qa (Qu rfl rfl) ?_
 refine Qa (Jf rfl Qw Qw Qh rfl rfl) ?_
 refine Qa (Qu rfl rfl) ?_
 refine Qa (Jf rfl Js Js Qh rfl rfl) ?_
 refine Qa (ps_eql rfl rfl rfl) ?_
 refine Qo (Qe ?_)
 refine Jc rfl (fun h20 => ?_) (fun h20 => ?_)
 replace H := Jt h20 H
 refine Qc ?_
 refine Qa (Ql rfl rfl) ?_
 refine Qa (Ql rfl rfl) ?_
 refine Qa (Ql rfl rfl) ?_
 have c21 := ck_l H; replace H := ck_r H
 refine Qa (ps_indexAddrRN rfl rfl c21 rfl) ?_
 refine Qa (ps_loadR rfl c21 rfl rfl) ?_
 have c22 := ck_l H; replace H := ck_r H
 refine Qa (ps_sub rfl rfl rfl c22) ?_
 refine Qa (Qi rfl rfl) ?_
 refine Qo (GoK.blk (Qe (Qc ?_)))
 refine Qa (ps_add rfl rfl rfl hIk11) ?_
 refine Qa (Ql rfl rfl) ?_
 refine Qo ?_
 obtain rfl := Qf H
 exact GoK.againJ m12' (by omega) ⟨_, _, ⟨by omega, hF8⟩, rfl, rfl⟩ (Qg rfl (Qg rfl (Qg rfl (Qg rfl (Qg rfl (Qg rfl (Qy))))))) (Qn _ _ _ _ _ Jk (Jj ⟨⟨⟨⟨Qs, Qb _⟩, Qb _⟩, Qb _⟩, Qb _⟩) (Jb _))
 replace H := Ju h20 H
 refine Jg (GoK.blk (Qe (Qc ?_)))
 refine Qa (ps_add rfl rfl rfl hIk11) ?_
 refine Qa (Ql rfl rfl) ?_
 refine Qo ?_
 obtain rfl := Qf H
 exact GoK.againJ m12' (by omega) ⟨_, _, ⟨by omega, hF8⟩, rfl, rfl⟩ (Qg rfl (Qg rfl (Qg rfl (Qg rfl (Qg rfl (Qg rfl (Qy))))))) (Qn _ _ _ _ _ Jk (Jj ⟨⟨⟨⟨Qs, Qb _⟩, Qb _⟩, Qb _⟩, Qb _⟩) (Jb _))
 obtain rfl : m12 = 0 := by omega
 refine GoC.exit rfl ?_
 cases hF8
 exact Jr ⟨rfl, rfl⟩ (Qg rfl (Qy)) (Qn _ _ _ _ _ Qk (Jj ⟨⟨⟨⟨Qs, Qb _⟩, Qb _⟩, Qb _⟩, Qb _⟩) (Jb _))
 rintro v h ⟨rfl, rfl⟩
 have H := HK7; clear HK7
 refine Qe (Qj (Qc ?_))
 refine Qa (Ql rfl rfl) ?_
 refine Qa (Qi rfl rfl) ?_
 refine Qa (Qi rfl rfl) ?_
 refine Qo (Qe ?_)
 obtain rfl := Qf H
 exact Jh (ds := [.v (.int .i64 x10), .v (.int .i64 0)]) Tryd.results90 (Qt (Qv rfl) (Qt (Qv rfl) (Je))) (Qm _) ⟨rfl, rfl⟩
def flow_amount_B1 (left : (List Int)) (arcs : (List Int)) : Nat → Int → Option (Int) := fun k16 x11 =>
 ck (0 ≤ (arcs.getD k16 (0 : Int)) ∧ (arcs.getD k16 (0 : Int)) < ((left.length : Nat) : Int)) <|
 some (min x11 (left.getD ((arcs.getD k16 (0 : Int)).toNat) (0 : Int)))
def flow_amount_F (left : (List Int)) (arcs : (List Int)) : Option (Piece) :=
 ck (0 < arcs.length) <|
 ck (0 ≤ (arcs.getD 0 (0 : Int)) ∧ (arcs.getD 0 (0 : Int)) < ((left.length : Nat) : Int)) <|
 (slices_Clone_int_F arcs).bind fun r4 =>
 (forN (flow_amount_B1 left arcs) arcs.length 0 (left.getD ((arcs.getD 0 (0 : Int)).toNat) (0 : Int))).bind fun x15 =>
 some (⟨x15, r4⟩ : Piece)
def flow_amount_P (out : Piece) (d : D) (H : List HL) : Prop := ∃ β1 : BK, d = .ag 2 (nth [.v (.int .i64 out.amount), .own β1 1 0 out.arcs.length]) ∧ H = [.one β1 3 1 (row out.arcs)]
theorem flow_amount_I (out : Piece) : IndepP (flow_amount_P out) := IndepP.of (by rintro _ _ ⟨β1, rfl, rfl⟩; exact ⟨inferInstance, inferInstance⟩)
set_option maxRecDepth 100000 in
set_option maxHeartbeats 4000000 in
theorem flow_amount_spec (left : (List Int)) (arcs : (List Int)) {out : Piece} (H : flow_amount_F left arcs = some out) : Does Tryd.prog 100 [slD left, slD arcs] [] (flow_amount_P out) := by
 unfold flow_amount_F at H
 refine Does.intro Tryd.func100 rfl Tryd.ntmps100 rfl fun w0 I0 tb0 => ?_
 refine Qj (Qc ?_)
 refine Jq (ef_alloc rfl) (fun β1 => ?_)
 refine Qo (Qe (Qj ?_))
 refine GoC.drawA (.q 0 (.q 1 (.q 2 (.q 3 (.q 4 (.q 5 (.q 6 (.two 7 9 (.q 8 (.one 9 (.one 10 (.done)))) (.one 7 (.q 8 (.one 10 (.done)))))))))))) follows (by kernel_rfl) ?_
 refine Qx rfl (Ql rfl rfl) ?_
 refine Qx rfl (Ql rfl rfl) ?_
 have c2 := ck_l H; replace H := ck_r H
 refine Qx rfl (ps_indexAddrRN (i := 0) rfl rfl c2 rfl) ?_
 refine Qx rfl (ps_loadR rfl c2 rfl rfl) ?_
 have c3 := ck_l H; replace H := ck_r H
 refine Qx rfl (ps_indexAddrR rfl rfl c3 rfl) ?_
 refine Qx rfl (ps_loadR rfl (idx_lt c3) rfl rfl) ?_
 refine Qx rfl (Ql rfl rfl) ?_
 have hb := Jd H; clear H
 obtain ⟨r4, e6, H⟩ := hb
 apply GoP.fork2
 exact rfl
 exact rfl
 exact Qs
 exact Qs
 exact ef_call rfl (Qm _) (Qm _) (slices_Clone_int_spec arcs e6) (Qq (Qp _ _) (Qz)) rfl (slices_Clone_int_I (r4))
 exact ef_alloc rfl
 exact (Qd _ _ _ _ _ Qk (Qm _))
 exact (Qd _ _ _ _ _ Qk (Qm _))
 intro hQ
 rintro _ ⟨_, _, hp, rfl⟩
 obtain ⟨β5, rfl, rfl⟩ := hp
 refine Qx rfl (ps_build (Jn _ _ _ _ _ _ _ _ FdP.of (Part.one _ rfl rfl) rfl rfl (Jn _ _ _ _ _ _ _ _ FdP.of (Part.one _ rfl rfl) rfl rfl (Parts.nil _))) rfl) ?_
 refine GoP.oneB rfl Qs (ef_alloc rfl) (Qd _ _ _ _ _ Jk (Qm _)) (fun β9 => ?_)
 refine GoP.one1 rfl Qs (ef_storeAg rfl rfl Qw upd_whole Qh rfl) (Qd _ _ _ _ _ Qk (Qd _ _ _ _ _ Jk (Qm _))) ?_
 exact GoP.done (hQ β5 β9)
 intro hQ
 rintro _ ⟨β8, rfl⟩
 refine GoP.oneC rfl Qs (ef_call rfl (Qm _) (Qm _) (slices_Clone_int_spec arcs e6) (Qq (Qp _ _) (Qz)) rfl (slices_Clone_int_I (r4))) (Qd _ _ _ _ _ Jk (Qm _)) (fun rr HH hp => ?_)
 obtain ⟨β5, rfl, rfl⟩ := hp
 refine Qx rfl (ps_build (Jn _ _ _ _ _ _ _ _ FdP.of (Part.one _ rfl rfl) rfl rfl (Jn _ _ _ _ _ _ _ _ FdP.of (Part.one _ rfl rfl) rfl rfl (Parts.nil _))) rfl) ?_
 refine GoP.one1 rfl Qs (ef_storeAg rfl rfl Js upd_whole Qh rfl) (Qd _ _ _ _ _ Jk (Qd _ _ _ _ _ Jk (Qm _))) ?_
 refine GoP.done (GoK.le ?_ (hQ β5 β8))
 refine Le.ofDW ?_ (Qn _ _ _ _ _ Jk (Qr _) (Qn _ _ _ _ _ Qk (Qr _) (Qn _ _ _ _ _ Qk (Qr _) (Jb _))))
 repeat (first | exact EnvLeW.nil | refine EnvLeW.cons rfl ?_ | refine EnvLeW.skip rfl ?_)
 intro β5 β9
 refine Qe (Qj (Qj (Qc ?_)))
 refine Qa (Ql rfl rfl) ?_
 refine Qa (ps_len rfl (by constructor) rfl) ?_
 refine GoO.lenLe (n := arcs.length) (x := .tmp 17) rfl (by constructor) sl_lenLe (fun ml10 => ?_)
 refine Qa (Ql rfl rfl) ?_
 refine Qo (Qe ?_)
 have hb := Jd H; clear H
 obtain ⟨x15, hl19, HK12⟩ := hb
 refine GoC.blockJ [(4, .ptr β1 2 0 0)] [.one β5 3 1 (row r4), .one β1 128 2 (st1 (nth [.v (.int .i64 0), .v (.slice none 0 0)]))] (fun v h => v = [(5, .ptr β9 2 0 0)] ∧ h = [.one β9 128 2 (st1 (nth [.v (.int .i64 x15), .own β5 1 0 r4.length]))]) ?_ ?_
 refine GoC.loopJ [(0, _), (4, _), (17, _), (18, _)] [.one β5 3 1 (row r4), .one β1 128 2 (st1 (nth [.v (.int .i64 0), .v (.slice none 0 0)]))] (fun mQ v h => ∃ (k16 : Nat) (x11 : Int), (k16 + mQ = arcs.length ∧ forN (flow_amount_B1 left arcs) mQ k16 x11 = some x15) ∧ v = [(19, .v (.int .i64 ((k16 : Nat) : Int))), (5, .ptr β9 2 0 0)] ∧ h = [.one β9 128 2 (st1 (nth [.v (.int .i64 x11), .own β5 1 0 r4.length]))]) arcs.length ⟨_, _, ⟨by omega, hl19⟩, rfl, rfl⟩ (Qg rfl (Qg rfl (Qg rfl (Qg rfl (Qg rfl (Qg rfl (Qy))))))) (Qn _ _ _ _ _ Qk (Jj ⟨⟨Qs, Qb _⟩, Qb _⟩) (Qn _ _ _ _ _ Qk (Qr _) (Qn _ _ _ _ _ Qk (Jj ⟨⟨Qs, Qb _⟩, Qb _⟩) (Jb _)))) ?_
 rintro m17 v h ⟨k16, x11, ⟨hkk16, hF13⟩, rfl, rfl⟩
 refine Qj (Qc ?_)
 refine Qa (ps_lss rfl rfl rfl) ?_
 refine Qo (Qe (Qj ?_))
 refine Jc rfl (fun (hk16 : (k16 : Int) < ((arcs.length : Nat) : Int)) => ?_) (fun (hk16 : ¬ (k16 : Int) < ((arcs.length : Nat) : Int)) => ?_)
 obtain ⟨m17', rfl⟩ : ∃ x, m17 = x + 1 := ⟨m17 - 1, by omega⟩
 have hb := Jd hF13; clear hF13
 obtain ⟨qrm17, H, hF13⟩ := hb
 have hnk16 : k16 < arcs.length := by omega
 have hIk16 : InI ((k16 : Int) + 1) := inI_len hk16 ml10
 refine Jg (Qe (Qj (GoC.block (Qj (Qc ?_)))))
 refine Qa (ps_indexAddrRN rfl rfl hnk16 rfl) ?_
 refine Qa (ps_loadR rfl hnk16 rfl rfl) ?_
 refine Qa (Qi rfl rfl) ?_
 refine Qo (Qe ?_)
 refine GoC.drawP (.q 0 (.q 2 (.q 3 (.q 4 (.q 5 (.one 1 (.q 6 (.q 7 (.one 8 (.done)))))))))) [] follows (by kernel_rfl) (Qm _) ?_
 refine Qx rfl (Qu rfl rfl) ?_
 refine Qx rfl (Ql rfl rfl) ?_
 refine Qx rfl (Ql rfl rfl) ?_
 have c18 := ck_l H; replace H := ck_r H
 refine Qx rfl (ps_indexAddrR rfl rfl c18 rfl) ?_
 refine Qx rfl (ps_loadR rfl (idx_lt c18) rfl rfl) ?_
 refine GoP.oneN rfl (Jf rfl Qw Qw Qh rfl rfl) (Qm _) ?_
 refine Qx rfl (ps_min rfl rfl rfl) ?_
 refine Qx rfl (Qu rfl rfl) ?_
 refine GoP.one1 rfl Qs (ef_store rfl rfl rfl Qw upd_st1 Qh rfl) (Qd _ _ _ _ _ Qk (Qm _)) ?_
 refine GoP.done ?_
 refine GoK.blk (Qe (Qc ?_))
 refine Qa (ps_add rfl rfl rfl hIk16) ?_
 refine Qa (Ql rfl rfl) ?_
 refine Qo ?_
 obtain rfl := Qf H
 exact GoK.againJ m17' (by omega) ⟨_, _, ⟨by omega, hF13⟩, rfl, rfl⟩ (Qg rfl (Qg rfl (Qg rfl (Qg rfl (Qg rfl (Qg rfl (Qy))))))) (Qn _ _ _ _ _ Qk (Jj ⟨⟨Qs, Qb _⟩, Qb _⟩) (Qn _ _ _ _ _ Qk (Qr _) (Qn _ _ _ _ _ Qk (Jj ⟨⟨Qs, Qb _⟩, Qb _⟩) (Jb _))))
 obtain rfl : m17 = 0 := by omega
 refine GoC.exit rfl ?_
 cases hF13
 exact Jr ⟨rfl, rfl⟩ (Qg rfl (Qg rfl (Qy))) (Qn _ _ _ _ _ Qk (Jj ⟨⟨Qs, Qb _⟩, Qb _⟩) (Qn _ _ _ _ _ Qk (Qr _) (Qn _ _ _ _ _ Qk (Jj ⟨⟨Qs, Qb _⟩, Qb _⟩) (Jb _))))
 rintro v h ⟨rfl, rfl⟩
 have H := HK12; clear HK12
 refine Qe (Qj (Qc ?_))
 refine Qa (ps_loadAg rfl Qw Qw Qh rfl rfl) ?_
 refine GoO.eff1 (ef_storeAg rfl rfl At.p2 upd_whole Qh rfl) ?_
 refine Qo (Qe ?_)
 obtain rfl := Qf H
 exact Jh (ds := [.ag 2 (nth [.v (.int .i64 x15), .own β5 1 0 r4.length])]) Tryd.results100 (Qt (ResD.le (ResD.cellAg rfl At.p2 Qh rfl) (by exact DLe.ag ⟨⟨Qs, Qb _⟩, Qb _⟩)) (Je)) (Qd _ _ _ _ _ Jk (Qm _)) ⟨β5, rfl, rfl⟩
def flow_piece_c1_F (p0 : Arc) (c_0 : Int) : Option (Bool) :=
 some (decide (p0.f = c_0))
def flow_piece_c1_P (out : Bool) (d : D) (H : List HL) : Prop := d = .v (.bool out) ∧ H = []
theorem flow_piece_c1_I (out : Bool) : IndepP (flow_piece_c1_P out) := IndepP.of (by rintro _ _ ⟨rfl, rfl⟩; exact ⟨inferInstance, inferInstance⟩)
set_option maxRecDepth 100000 in
set_option maxHeartbeats 4000000 in
theorem flow_piece_c1_spec (p0 : Arc) (c_0 : Int) {out : Bool} (H : flow_piece_c1_F p0 c_0 = some out) : Does Tryd.prog 99 [.ag 3 (nth [.v (.int .i64 p0.f), .v (.int .i64 p0.t), .v (.int .i64 p0.c)]), .rp 1 1 (row [c_0]).get 0 0] [] (flow_piece_c1_P out) := by
 unfold flow_piece_c1_F at H
 refine Does.intro Tryd.func99 rfl Tryd.ntmps99 rfl fun w0 I0 tb0 => ?_
 refine Qj (Qc ?_)
 refine Jq (ef_boxAg rfl rfl) (fun β1 => ?_)
 refine Qa (Qi rfl rfl) ?_
 refine Qo (Qe (Qj (Qc ?_)))
 refine Qa (Qu rfl rfl) ?_
 refine Qa (Jf rfl Qw Qw Qh rfl rfl) ?_
 refine Qa (ps_loadR rfl Qh rfl rfl) ?_
 refine Qa (ps_eql rfl rfl rfl) ?_
 refine Qa (Qi rfl rfl) ?_
 refine Qo (Qe ?_)
 obtain rfl := Qf H
 exact Jh (ds := [.v (.bool (decide (p0.f = c_0)))]) Tryd.results99 (Qt (Qv rfl) (Je)) (Qm _) ⟨rfl, rfl⟩
def slices_IndexFunc_Arc_flow_piece_c1_B1 (p0 : (List Arc)) (c1_0 : Int) : Nat → Unit → Option (Ct (Unit) (Int)) := fun k5 _ =>
 (flow_piece_c1_F (p0.getD k5 El.d) c1_0).bind fun r7 =>
 if r7 = true then
  some (.ret ((k5 : Nat) : Int))
 else
  some (.go ())
def slices_IndexFunc_Arc_flow_piece_c1_F (p0 : (List Arc)) (c1_0 : Int) : Option (Int) :=
 (forC (slices_IndexFunc_Arc_flow_piece_c1_B1 p0 c1_0) p0.length 0 ()).bind fun q => match q with
 | .go _ =>
  some (-1)
 | .ret x => some x
def slices_IndexFunc_Arc_flow_piece_c1_P (out : Int) (d : D) (H : List HL) : Prop := d = .v (.int .i64 out) ∧ H = []
theorem slices_IndexFunc_Arc_flow_piece_c1_I (out : Int) : IndepP (slices_IndexFunc_Arc_flow_piece_c1_P out) := IndepP.of (by rintro _ _ ⟨rfl, rfl⟩; exact ⟨inferInstance, inferInstance⟩)
set_option maxRecDepth 100000 in
set_option maxHeartbeats 4000000 in
theorem slices_IndexFunc_Arc_flow_piece_c1_spec (p0 : (List Arc)) (c1_0 : Int) {out : Int} (H : slices_IndexFunc_Arc_flow_piece_c1_F p0 c1_0 = some out) : Does Tryd.prog 98 [slD p0, .fn 99 1 (nth [.rp 1 1 (row [c1_0]).get 0 0])] [] (slices_IndexFunc_Arc_flow_piece_c1_P out) := by
 unfold slices_IndexFunc_Arc_flow_piece_c1_F at H
 refine Does.intro Tryd.func98 rfl Tryd.ntmps98 rfl fun w0 I0 tb0 => ?_
 refine Qj (Qc ?_)
 refine Qa (Qi rfl rfl) ?_
 refine Qo (Qe (Qj (Qj (Qc ?_))))
 refine Qa (Ql rfl rfl) ?_
 refine Qa (ps_len rfl (by constructor) rfl) ?_
 refine GoO.lenLe (n := p0.length) (x := .tmp 6) rfl (by constructor) sl_lenLe (fun ml1 => ?_)
 refine Qa (Ql rfl rfl) ?_
 refine Qo (Qe ?_)
 have hb := Jd H; clear H
 obtain ⟨q4, hl10, HK2⟩ := hb
 refine GoC.blockJ [] [] (fun v h => q4 = .go () ∧ v = [] ∧ h = []) ?_ ?_
 refine GoC.loopJ [(0, _), (1, _), (7, _)] [] (fun mQ v h => ∃ (k5 : Nat), (k5 + mQ = p0.length ∧ forC (slices_IndexFunc_Arc_flow_piece_c1_B1 p0 c1_0) mQ k5 () = some q4) ∧ v = [(8, .v (.int .i64 ((k5 : Nat) : Int)))] ∧ h = []) p0.length ⟨_, ⟨by omega, hl10⟩, rfl, rfl⟩ (Qg rfl (Qg rfl (Qg rfl (Qg rfl (Qy))))) (Jb _) ?_
 rintro m6 v h ⟨k5, ⟨hkk5, hF3⟩, rfl, rfl⟩
 refine Qj (Qc ?_)
 refine Qa (ps_lss rfl rfl rfl) ?_
 refine Qo (Qe (Qj ?_))
 refine Jc rfl (fun (hk5 : (k5 : Int) < ((p0.length : Nat) : Int)) => ?_) (fun (hk5 : ¬ (k5 : Int) < ((p0.length : Nat) : Int)) => ?_)
 obtain ⟨m6', rfl⟩ : ∃ x, m6 = x + 1 := ⟨m6 - 1, by omega⟩
 have hb := Jd hF3; clear hF3
 obtain ⟨qrm6, H, hF3⟩ := hb
 have hnk5 : k5 < p0.length := by omega
 have hIk5 : InI ((k5 : Int) + 1) := inI_len hk5 ml1
 refine Jg (Qe (Qj (GoC.block (Qj (Qc ?_)))))
 refine Qa (Ql rfl rfl) ?_
 refine Qa (Qi rfl rfl) ?_
 refine Qo (Qe (Qj (Qc ?_)))
 refine Qa (Ql rfl rfl) ?_
 refine Qa (Ql rfl rfl) ?_
 refine Qa (Ql rfl rfl) ?_
 refine Qa (ps_indexAddrRN rfl rfl hnk5 rfl) ?_
 refine Qa (ps_loadAgR rfl hnk5 rfl rfl) ?_
 have hb := Jd H; clear H
 obtain ⟨r7, e8, H⟩ := hb
 refine GoO.effC (ef_callv rfl rfl rfl (Qm _) (Qm _) (flow_piece_c1_spec (p0.getD k5 El.d) c1_0 e8) (Qq (Lend.agA ⟨⟨⟨Qs, Qp _ _⟩, Qp _ _⟩, Qp _ _⟩) (Qq (Qp _ _) (Qz))) rfl (flow_piece_c1_I (r7))) (fun rr HH hp => ?_)
 obtain ⟨rfl, rfl⟩ := hp
 refine Qo (Qe ?_)
 refine GoC.cond rfl (fun h9 => ?_) (fun h9 => ?_)
 replace H := itb_t h9 H
 refine Qj (Qc ?_)
 refine Qa (Ql rfl rfl) ?_
 refine Qa (Qi rfl rfl) ?_
 refine Qo (Qe ?_)
 obtain rfl := Qf H
 obtain rfl := Qf hF3
 obtain rfl := Qf HK2
 exact Jh (ds := [.v (.int .i64 ((k5 : Nat) : Int))]) Tryd.results98 (Qt (Qv rfl) (Je)) (Qm _) ⟨rfl, rfl⟩
 replace H := itb_f h9 H
 refine Jg (GoK.blk (Qe (Qc ?_)))
 refine Qa (ps_add rfl rfl rfl hIk5) ?_
 refine Qa (Ql rfl rfl) ?_
 refine Qo ?_
 obtain rfl := Qf H
 exact GoK.againJ m6' (by omega) ⟨_, ⟨by omega, hF3⟩, rfl, rfl⟩ (Qg rfl (Qg rfl (Qg rfl (Qg rfl (Qy))))) (Jb _)
 obtain rfl : m6 = 0 := by omega
 refine GoC.exit rfl ?_
 cases hF3
 exact Jr ⟨rfl, rfl, rfl⟩ (Qy) (Jb _)
 rintro v h ⟨rfl, rfl, rfl⟩
 have H := HK2; clear HK2
 refine Qe (Qj (Qc ?_))
 refine Qa (Qi rfl rfl) ?_
 refine Qo (Qe ?_)
 obtain rfl := Qf H
 exact Jh (ds := [.v (.int .i64 (-1))]) Tryd.results98 (Qt (Qv rfl) (Je)) (Qm _) ⟨rfl, rfl⟩
def flow_piece_B2 (n : Net) (left : (List Int)) (x5 : Int) : Int → Option (Ct (Int) (Ct (Int × (List Int) × (List (Int × Int))) (Piece × Bool))) := fun x19 =>
 ((
  ck (0 ≤ x19 ∧ x19 < ((left.length : Nat) : Int)) <|
  if (left.getD x19.toNat (0 : Int)) = 0 then
   some (.go ())
  else
   ck (0 ≤ x19 ∧ x19 < ((n.as.length : Nat) : Int)) <|
   if ((n.as.getD x19.toNat El.d).f) ≠ x5 then
    some (.go ())
   else
    some (.ret (.brk x19))) : Option (Ex (Unit) (Ct (Int) (Ct (Int × (List Int) × (List (Int × Int))) (Piece × Bool))))).bind fun q => match q with
 | .go () =>
  ck (InI (x19 + 1)) <|
  some (.go (x19 + 1))
 | .ret x => some x
def flow_piece_B1 (n : Net) (left : (List Int)) : (Int × (List Int) × (List (Int × Int))) → Option (Ct (Int × (List Int) × (List (Int × Int))) (Piece × Bool)) := fun (x5, l7, mm8) =>
 if x5 ≠ n.t then
  (slices_IndexFunc_Arc_flow_piece_c1_F n.as x5).bind fun r17 =>
  (loopC (flow_piece_B2 n left x5) 1000000 r17).bind fun q => match q with
  | .go x23 =>
   ck (l7.length + 1 ≤ 17592186044416) <|
   ck (0 ≤ x23 ∧ x23 < ((n.as.length : Nat) : Int)) <|
   if (mget mm8 ((n.as.getD x23.toNat El.d).t)).isSome = true then
    ck (0 ≤ ((mget mm8 ((n.as.getD x23.toNat El.d).t)).getD 0)) <|
    ck (((mget mm8 ((n.as.getD x23.toNat El.d).t)).getD 0).toNat ≤ (l7.length + 1)) <|
    (flow_amount_F left (subl (l7 ++ ([x23] : List Int)) (((mget mm8 ((n.as.getD x23.toNat El.d).t)).getD 0).toNat) ((l7.length + 1) - ((mget mm8 ((n.as.getD x23.toNat El.d).t)).getD 0).toNat))).bind fun r41 =>
    some (.ret (r41, true))
   else
    some (.go ((n.as.getD x23.toNat El.d).t, (l7 ++ ([x23] : List Int)), (mset mm8 ((n.as.getD x23.toNat El.d).t) (((l7.length + 1) : Nat) : Int))))
  | .ret x => some x
 else
  some (.brk (x5, l7, mm8))
def flow_piece_F (n : Net) (left : (List Int)) (at_ : Int) : Option (Piece × Bool) :=
 (loopC (flow_piece_B1 n left) 1000000 (at_, [], (mset ([] : List (Int × Int)) at_ 0))).bind fun q => match q with
 | .go (x12, l13, mm14) =>
  (flow_amount_F left l13).bind fun r46 =>
  some (r46, false)
 | .ret x => some x
def flow_piece_P (out : Piece × Bool) (d : D) (H : List HL) : Prop := ∃ β1 : BK, d = .tp 2 (nth [.ag 2 (nth [.v (.int .i64 out.1.amount), .own β1 1 0 out.1.arcs.length]), .v (.bool out.2)]) ∧ H = [.one β1 3 1 (row out.1.arcs)]
theorem flow_piece_I (out : Piece × Bool) : IndepP (flow_piece_P out) := IndepP.of (by rintro _ _ ⟨β1, rfl, rfl⟩; exact ⟨inferInstance, inferInstance⟩)
set_option maxRecDepth 100000 in
set_option maxHeartbeats 4000000 in
theorem flow_piece_spec (n : Net) (left : (List Int)) (at_ : Int) {out : Piece × Bool} (H : flow_piece_F n left at_ = some out) : Does Tryd.prog 92 [.ag 4 (nth [.v (.int .i64 n.n), .v (.int .i64 n.s), .v (.int .i64 n.t), slD n.as]), slD left, .v (.int .i64 at_)] [] (flow_piece_P out) := by
 unfold flow_piece_F at H
 refine Does.intro Tryd.func92 rfl Tryd.ntmps92 rfl fun w0 I0 tb0 => ?_
 refine Qj (Qc ?_)
 refine Jq (ef_boxAg rfl rfl) (fun β1 => ?_)
 refine Jq (ef_box rfl rfl rfl) (fun β2 => ?_)
 refine Jq (ef_alloc rfl) (fun β3 => ?_)
 refine Qa (Qi rfl rfl) ?_
 refine Qo (Qe (Qj (Qc ?_)))
 refine Qa (Qi rfl rfl) ?_
 refine Qo (Qe (Qj (Qc ?_)))
 refine Jq (ef_makeMap rfl) (fun β4 => ?_)
 refine Qa (Jf rfl At.p2 At.p2 Qh rfl rfl) ?_
 refine GoO.eff1 (ef_mapIns rfl rfl rfl Qw) ?_
 refine Qa (Ql rfl rfl) ?_
 refine Qa (Qi rfl rfl) ?_
 refine Qo (Qe (Qj ?_))
 have hb := Jd H; clear H
 obtain ⟨q11, hl45, HK9⟩ := hb
 refine GoC.blockJ [(1, slD left), (6, .ptr β3 2 0 0)] [.one β3 128 2 (st1 (nth [.v (.int .i64 0), .v (.slice none 0 0)])), .one β1 42 4 (st1 (nth [.v (.int .i64 n.n), .v (.int .i64 n.s), .v (.int .i64 n.t), slD n.as]))] (fun v h => ∃ (x12 : Int) (l13 : (List Int)) (mm14 : (List (Int × Int))) (β6 : BK), q11 = .go (x12, l13, mm14) ∧ v = [(8, .own β6 1 0 l13.length)] ∧ h = [.one β2 3 1 (st1 (nth [.v (.int .i64 x12)])), .one β6 3 1 (row l13), .mp β4 mm14]) ?_ ?_
 refine GoC.loopJ [(1, _), (3, _), (6, _)] [.one β3 128 2 (st1 (nth [.v (.int .i64 0), .v (.slice none 0 0)])), .one β1 42 4 (st1 (nth [.v (.int .i64 n.n), .v (.int .i64 n.s), .v (.int .i64 n.t), slD n.as]))] (fun mQ v h => ∃ (x5 : Int) (l7 : (List Int)) (mm8 : (List (Int × Int))) (β6 : BK), loopC (flow_piece_B1 n left) mQ (x5, l7, mm8) = some q11 ∧ v = [(5, .ptr β2 1 0 0), (8, .own β6 1 0 l7.length), (9, .v (.map (some β4.b)))] ∧ h = [.one β2 3 1 (st1 (nth [.v (.int .i64 x5)])), .one β6 3 1 (row l7), .mp β4 mm8]) 1000000 ⟨_, _, _, ⟨0, 0, 0⟩, hl45, rfl, rfl⟩ (Qg rfl (Jm rfl (DLe.nilOwn) (Qg rfl (Qg rfl (Qg rfl (Qg rfl (Qy))))))) (Qn _ _ _ _ _ Rem.p2 (Jj ⟨Qs, Qb _⟩) (TkD.no _ _ _ _ _ rfl (Qn _ _ _ _ _ Qk (Qr _) (Qn _ _ _ _ _ Qk (Jj ⟨⟨Qs, Qb _⟩, Qb _⟩) (Qn _ _ _ _ _ Qk (Jj ⟨⟨⟨⟨Qs, Qb _⟩, Qb _⟩, Qb _⟩, Qb _⟩) (Jb _)))))) ?_
 rintro m15 v h ⟨x5, l7, mm8, β6, hF10, rfl, rfl⟩
 obtain ⟨m15', rfl⟩ | rfl : (∃ x, m15 = x + 1) ∨ m15 = 0 := by cases m15 <;> simp
 case inr => cases hF10
 have hb := Jd hF10; clear hF10
 obtain ⟨qrm15, H, hF10⟩ := hb
 refine Qj (Qj (Qc ?_))
 refine Qa (Jf rfl Qw Qw Qh rfl rfl) ?_
 refine Qa (Qu rfl rfl) ?_
 refine Qa (Jf rfl At.p4 At.p4 Qh rfl rfl) ?_
 refine Qa (ps_neq rfl rfl rfl) ?_
 refine Qo (Qe ?_)
 refine Jc rfl (fun h16 => ?_) (fun h16 => ?_)
 replace H := Jt h16 H
 refine Jg (Qe (GoC.block (Qj (Qc ?_))))
 refine Qa (Qu rfl rfl) ?_
 refine Qa (Jf rfl At.p4 At.p4 Qh rfl rfl) ?_
 refine Qa (ps_makeFunc rfl rfl rfl) ?_
 have hb := Jd H; clear H
 obtain ⟨r17, e18, H⟩ := hb
 refine GoO.effC (ef_call rfl (Qm _) (Qd _ _ _ _ _ Qk (Qm _)) (slices_IndexFunc_Arc_flow_piece_c1_spec n.as x5 e18) (Qq (Qp _ _) (Qq (Lend.fn (Qq (Lend.box (ds := [.v (.int .i64 x5)]) Qw rfl (by decide) ⟨Qs, rfl⟩ (Qq (Qp _ _) (Qz)) ⟨Qs, rfl⟩ rfl) (Qz))) (Qz))) rfl (slices_IndexFunc_Arc_flow_piece_c1_I (r17))) (fun rr HH hp => ?_)
 obtain ⟨rfl, rfl⟩ := hp
 refine Qa (Qi rfl rfl) ?_
 refine Qo (Qe (Qj ?_))
 have hb := Jd H; clear H
 obtain ⟨q22, hl32, HK20⟩ := hb
 refine GoC.blockJ [(1, slD left), (3, .ptr β1 4 0 0), (5, .ptr β2 1 0 0), (6, .ptr β3 2 0 0), (8, .own β6 1 0 l7.length), (9, .v (.map (some β4.b)))] [.one β2 3 1 (st1 (nth [.v (.int .i64 x5)])), .one β6 3 1 (row l7), .mp β4 mm8, .one β3 128 2 (st1 (nth [.v (.int .i64 0), .v (.slice none 0 0)])), .one β1 42 4 (st1 (nth [.v (.int .i64 n.n), .v (.int .i64 n.s), .v (.int .i64 n.t), slD n.as]))] (fun v h => ∃ (x23 : Int), q22 = .go x23 ∧ v = [(10, .v (.int .i64 x23))] ∧ h = []) ?_ ?_
 refine GoC.loopJ [(1, _), (3, _), (5, _), (6, _), (8, _), (9, _)] [.one β2 3 1 (st1 (nth [.v (.int .i64 x5)])), .one β6 3 1 (row l7), .mp β4 mm8, .one β3 128 2 (st1 (nth [.v (.int .i64 0), .v (.slice none 0 0)])), .one β1 42 4 (st1 (nth [.v (.int .i64 n.n), .v (.int .i64 n.s), .v (.int .i64 n.t), slD n.as]))] (fun mQ v h => ∃ (x19 : Int), loopC (flow_piece_B2 n left x5) mQ x19 = some q22 ∧ v = [(10, .v (.int .i64 x19))] ∧ h = []) 1000000 ⟨_, hl32, rfl, rfl⟩ (Qg rfl (Qg rfl (Qg rfl (Qg rfl (Qg rfl (Qg rfl (Qg rfl (Qy)))))))) (Qn _ _ _ _ _ Qk (Jj ⟨Qs, Qb _⟩) (Qn _ _ _ _ _ Qk (Qr _) (Qn _ _ _ _ _ Qk (Qr _) (Qn _ _ _ _ _ Qk (Jj ⟨⟨Qs, Qb _⟩, Qb _⟩) (Qn _ _ _ _ _ Qk (Jj ⟨⟨⟨⟨Qs, Qb _⟩, Qb _⟩, Qb _⟩, Qb _⟩) (Jb _)))))) ?_
 rintro m24 v h ⟨x19, hF21, rfl, rfl⟩
 obtain ⟨m24', rfl⟩ | rfl : (∃ x, m24 = x + 1) ∨ m24 = 0 := by cases m24 <;> simp
 case inr => cases hF21
 have hb := Jd hF21; clear hF21
 obtain ⟨qrm24, H, hF21⟩ := hb
 have hb := Jd H; clear H
 obtain ⟨q26, H, HK25⟩ := hb
 refine GoC.seqJ [(1, slD left), (3, .ptr β1 4 0 0), (5, .ptr β2 1 0 0), (6, .ptr β3 2 0 0), (8, .own β6 1 0 l7.length), (9, .v (.map (some β4.b))), (10, .v (.int .i64 x19))] [.one β2 3 1 (st1 (nth [.v (.int .i64 x5)])), .one β6 3 1 (row l7), .mp β4 mm8, .one β3 128 2 (st1 (nth [.v (.int .i64 0), .v (.slice none 0 0)])), .one β1 42 4 (st1 (nth [.v (.int .i64 n.n), .v (.int .i64 n.s), .v (.int .i64 n.t), slD n.as]))] (fun v h => q26 = .go () ∧ v = [] ∧ h = []) ?_ ?_
 refine Qj ?_
 refine GoC.drawA (.q 0 (.q 1 (.q 2 (.q 3 (.q 4 (.q 5 (.q 6 (.q 7 (.q 8 (.q 9 (.q 10 (.q 11 (.q 12 (.q 13 (.q 14 (.done)))))))))))))))) follows (by kernel_rfl) ?_
 refine Qx rfl (Ql rfl rfl) ?_
 refine Qx rfl (Ql rfl rfl) ?_
 have c27 := ck_l H; replace H := ck_r H
 refine Qx rfl (ps_indexAddrR rfl rfl c27 rfl) ?_
 refine Qx rfl (ps_loadR rfl (idx_lt c27) rfl rfl) ?_
 refine Qx rfl (ps_eql rfl rfl rfl) ?_
 refine Qx rfl (Ql rfl rfl) ?_
 refine GoP.decideD 29 rfl (fun h28 => ?_) (fun h28 => ?_)
 replace H := Jt h28 H
 refine GoP.qF rfl rfl rfl rfl rfl ?_
 refine GoP.qF rfl rfl rfl rfl rfl ?_
 refine GoP.qF rfl rfl rfl rfl rfl ?_
 refine GoP.qF rfl rfl rfl rfl rfl ?_
 refine GoP.qF rfl rfl rfl rfl rfl ?_
 refine GoP.qF rfl rfl rfl rfl rfl ?_
 refine GoP.qF rfl rfl rfl rfl rfl ?_
 refine GoP.qF rfl rfl rfl rfl rfl ?_
 refine Qx rfl (ps_pickT rfl rfl rfl) ?_
 refine GoP.done ?_
 refine Qe ?_
 refine GoC.condT rfl ?_
 refine Jg ?_
 obtain rfl := Qf H
 exact Jr ⟨rfl, rfl, rfl⟩ (Qg rfl (Qg rfl (Qg rfl (Qg rfl (Qg rfl (Qg rfl (Qg rfl (Qy)))))))) (Qn _ _ _ _ _ Qk (Jj ⟨Qs, Qb _⟩) (Qn _ _ _ _ _ Qk (Qr _) (Qn _ _ _ _ _ Qk (Qr _) (Qn _ _ _ _ _ Qk (Jj ⟨⟨Qs, Qb _⟩, Qb _⟩) (Qn _ _ _ _ _ Qk (Jj ⟨⟨⟨⟨Qs, Qb _⟩, Qb _⟩, Qb _⟩, Qb _⟩) (Jb _))))))
 replace H := Ju h28 H
 refine GoP.qT rfl rfl rfl rfl (Qu rfl rfl) ?_
 refine GoP.qT rfl rfl rfl rfl (Jf rfl At.p4 At.p4 Qh rfl rfl) ?_
 refine GoP.qT rfl rfl rfl rfl (Ql rfl rfl) ?_
 have c29 := ck_l H; replace H := ck_r H
 refine GoP.qT rfl rfl rfl rfl (ps_indexAddrR rfl rfl c29 rfl) ?_
 refine GoP.qT rfl rfl rfl rfl (ps_fieldAddrR rfl rfl) ?_
 refine GoP.qT rfl rfl rfl rfl (ps_loadR rfl (idx_lt c29) rfl rfl) ?_
 refine GoP.qT rfl rfl rfl rfl (Jf rfl Qw Qw Qh rfl rfl) ?_
 refine GoP.qT rfl rfl rfl rfl (ps_neq rfl rfl rfl) ?_
 refine Qx rfl (ps_pickF rfl rfl rfl) ?_
 refine GoP.done ?_
 refine Qe ?_
 refine Jc rfl (fun h30 => ?_) (fun h30 => ?_)
 replace H := Jt h30 H
 refine Jg ?_
 obtain rfl := Qf H
 exact Jr ⟨rfl, rfl, rfl⟩ (Qg rfl (Qg rfl (Qg rfl (Qg rfl (Qg rfl (Qg rfl (Qg rfl (Qy)))))))) (Qn _ _ _ _ _ Qk (Jj ⟨Qs, Qb _⟩) (Qn _ _ _ _ _ Qk (Qr _) (Qn _ _ _ _ _ Qk (Qr _) (Qn _ _ _ _ _ Qk (Jj ⟨⟨Qs, Qb _⟩, Qb _⟩) (Qn _ _ _ _ _ Qk (Jj ⟨⟨⟨⟨Qs, Qb _⟩, Qb _⟩, Qb _⟩, Qb _⟩) (Jb _))))))
 replace H := Ju h30 H
 refine GoC.exit rfl ?_
 obtain rfl := Qf H
 obtain rfl := Qf HK25
 obtain rfl := Qf hF21
 exact Jr ⟨_, rfl, rfl, rfl⟩ (Qg rfl (Qg rfl (Qg rfl (Qg rfl (Qg rfl (Qg rfl (Qg rfl (Qy)))))))) (Qn _ _ _ _ _ Qk (Jj ⟨Qs, Qb _⟩) (Qn _ _ _ _ _ Qk (Qr _) (Qn _ _ _ _ _ Qk (Qr _) (Qn _ _ _ _ _ Qk (Jj ⟨⟨Qs, Qb _⟩, Qb _⟩) (Qn _ _ _ _ _ Qk (Jj ⟨⟨⟨⟨Qs, Qb _⟩, Qb _⟩, Qb _⟩, Qb _⟩) (Jb _))))))
 rintro v h ⟨rfl, rfl, rfl⟩
 have H := HK25; clear HK25
 refine GoC.block (Qc ?_)
 refine Qa (Ql rfl rfl) ?_
 have c31 := ck_l H; replace H := ck_r H
 refine Qa (ps_add rfl rfl rfl c31) ?_
 refine Qa (Qi rfl rfl) ?_
 refine Qo (GoK.blk ?_)
 obtain rfl := Qf H
 exact GoK.againJ m24' (by omega) ⟨_, hF21, rfl, rfl⟩ (Qg rfl (Qg rfl (Qg rfl (Qg rfl (Qg rfl (Qg rfl (Qg rfl (Qy)))))))) (Qn _ _ _ _ _ Qk (Jj ⟨Qs, Qb _⟩) (Qn _ _ _ _ _ Qk (Qr _) (Qn _ _ _ _ _ Qk (Qr _) (Qn _ _ _ _ _ Qk (Jj ⟨⟨Qs, Qb _⟩, Qb _⟩) (Qn _ _ _ _ _ Qk (Jj ⟨⟨⟨⟨Qs, Qb _⟩, Qb _⟩, Qb _⟩, Qb _⟩) (Jb _))))))
 rintro v h ⟨x23, rfl, rfl, rfl⟩
 have H := HK20; clear HK20
 refine Qe (Qj (Qc ?_))
 refine Qa (Ql rfl rfl) ?_
 refine Qa (Ql rfl rfl) ?_
 refine Jq (ef_buildSlice (row ([x23] : List Int)) rfl (Jn _ _ _ _ _ _ _ _ ⟨rfl, rfl⟩ (Part.one _ rfl rfl) rfl rfl (Parts.nil _)) rfl rfl rfl rfl) (fun β33 => ?_)
 have c35 := ck_l H; replace H := ck_r H
 refine Jq (ef_append rfl rfl Rem.p2 (Src.own Qw (by first | omega | (simp only [szl]; omega) | (simp only [szl]; done))) (cat_row (α := Int) (by first | rfl | omega | (simp only [szl] <;> first | rfl | omega)) (by first | rfl | omega | (simp only [szl] <;> first | rfl | omega)) (fun _ _ _ _ => rfl)) (by first | omega | (simp only [szl]; omega) | (simp only [szl]; done)) (app_le c35 rfl) rfl rfl rfl) (fun β34 => ?_)
 refine Qa (Qi rfl rfl) ?_
 refine Qo (Qe (Qj (Qc ?_)))
 refine Qa (Qu rfl rfl) ?_
 refine Qa (Jf rfl At.p5 At.p5 Qh rfl rfl) ?_
 refine Qa (Ql rfl rfl) ?_
 have c36 := ck_l H; replace H := ck_r H
 refine Qa (ps_indexAddrR rfl rfl c36 rfl) ?_
 refine Qa (ps_fieldAddrR rfl rfl) ?_
 refine Qa (ps_loadR rfl (idx_lt c36) rfl rfl) ?_
 refine GoO.eff1 (ef_store rfl rfl rfl At.p2 upd_st1 Qh rfl) ?_
 refine Qo (Qe (Qj (Qj (Qc ?_))))
 refine Qa (Ql rfl rfl) ?_
 refine Qa (Jf rfl At.p2 At.p2 Qh rfl rfl) ?_
 refine GoO.eff1 (ef_lookup rfl rfl At.p3 rfl) ?_
 refine Qa (Ql rfl rfl) ?_
 refine Qa (Ji rfl rfl rfl) ?_
 refine Qa (Ji rfl rfl rfl) ?_
 refine Qa (Qi rfl rfl) ?_
 refine Qa (Qi rfl rfl) ?_
 refine Qo (Qe (Qj (Qc ?_)))
 refine Qa (Ql rfl rfl) ?_
 refine Qo (Qe ?_)
 refine GoC.cond rfl (fun h37 => ?_) (fun h37 => ?_)
 replace H := itb_t h37 H
 refine Qj (Qc ?_)
 refine Qa (Ql rfl rfl) ?_
 refine Qa (Ql rfl rfl) ?_
 refine Qa (Ql rfl rfl) ?_
 have c38 := ck_l H; replace H := ck_r H
 have c39 := ck_l H; replace H := ck_r H
 refine Qa (ps_slice rfl (Bd.int _ _ _ _ rfl c38) (Bd.no _) c39 (Nat.le_refl _) rfl) ?_
 refine GoO.le (Le.shift Qw (by have := c39; first | omega | (simp only [szl]; omega) | (simp only [szl, eldI]; omega))) ?_
 refine GoO.le (Le.reH Qw (HLe.part (xs := (l7 ++ ([x23] : List Int))) (r := (((mget mm8 ((n.as.getD x23.toNat El.d).t)).getD 0).toNat) + 0) (len := (l7.length + 1) - ((mget mm8 ((n.as.getD x23.toNat El.d).t)).getD 0).toNat) (by have := c39; first | omega | (simp only [szl]; omega)))) ?_
 generalize (⟨β34.b, β34.o + ((((mget mm8 ((n.as.getD x23.toNat El.d).t)).getD 0).toNat) + 0) * 1, β34.s - ((((mget mm8 ((n.as.getD x23.toNat El.d).t)).getD 0).toNat) + 0)⟩ : BK) = β40
 have hb := Jd H; clear H
 obtain ⟨r41, e43, H⟩ := hb
 refine GoO.effC (ef_call rfl (Qm _) (Qd _ _ _ _ _ Qk (Qm _)) (flow_amount_spec left (subl (l7 ++ ([x23] : List Int)) (((mget mm8 ((n.as.getD x23.toNat El.d).t)).getD 0).toNat) ((l7.length + 1) - ((mget mm8 ((n.as.getD x23.toNat El.d).t)).getD 0).toNat)) e43) (Qq (Qp _ _) (Qq (Lend.all' Qw (by first | rfl | omega | (simp only [szl] <;> first | rfl | omega)) rfl) (Qz))) rfl (flow_amount_I (r41))) (fun rr HH hp => ?_)
 obtain ⟨β42, rfl, rfl⟩ := hp
 refine GoO.eff1 (ef_storeAg rfl rfl At.p5 upd_whole Qh rfl) ?_
 refine Qa (Qi rfl rfl) ?_
 refine Qo (Qe ?_)
 obtain rfl := Qf H
 obtain rfl := Qf hF10
 obtain rfl := Qf HK9
 exact Jh (ds := [.ag 2 (nth [.v (.int .i64 r41.amount), .own β42 1 0 r41.arcs.length]), .v (.bool true)]) Tryd.results92 (Qt (ResD.le (ResD.cellAg rfl At.p5 Qh rfl) (by exact DLe.ag ⟨⟨Qs, Qb _⟩, Qb _⟩)) (Qt (Qv rfl) (Je))) (Qd _ _ _ _ _ Qk (Qm _)) ⟨β42, rfl, rfl⟩
 replace H := itb_f h37 H
 refine Jg (Qe (Qc ?_))
 refine Qa (Ql rfl rfl) ?_
 refine Qa (Jf rfl At.p2 At.p2 Qh rfl rfl) ?_
 refine Qa (Ql rfl rfl) ?_
 refine Qa (ps_len rfl (by constructor) rfl) ?_
 refine GoO.lenLe (n := (l7.length + 1)) (x := .tmp 65) rfl (by constructor) own_lenLe (fun ml44 => ?_)
 refine GoO.eff1 (ef_mapSet rfl rfl rfl At.p3) ?_
 refine Qo (GoK.blk ?_)
 obtain rfl := Qf H
 exact GoK.againJ m15' (by omega) ⟨_, _, _, β34, hF10, rfl, rfl⟩ (Qg rfl (Jm rfl (Jp (by first | rfl | omega | (simp only [row_len, gridC_len, rowO_len, List.length_append, List.length_cons, List.length_nil] <;> first | rfl | omega))) (Qg rfl (Qg rfl (Qg rfl (Qg rfl (Qy))))))) (Qn _ _ _ _ _ Rem.p2 (Jj ⟨Qs, Qb _⟩) (Qn _ _ _ _ _ Qk (Qr _) (Qn _ _ _ _ _ Jk (Qr _) (Qn _ _ _ _ _ Jk (Jj ⟨⟨Qs, Qb _⟩, Qb _⟩) (Qn _ _ _ _ _ Jk (Jj ⟨⟨⟨⟨Qs, Qb _⟩, Qb _⟩, Qb _⟩, Qb _⟩) (Jb _))))))
 replace H := Ju h16 H
 refine GoC.exit rfl ?_
 obtain rfl := Qf H
 obtain rfl := Qf hF10
 exact Jr ⟨_, _, _, β6, rfl, rfl, rfl⟩ (Jm rfl (Jp (by first | rfl | omega | (simp only [row_len, gridC_len, rowO_len] <;> first | rfl | omega))) (Qg rfl (Qg rfl (Qy)))) (Qn _ _ _ _ _ Qk (Jj ⟨Qs, Qb _⟩) (Qn _ _ _ _ _ Qk (Qr _) (Qn _ _ _ _ _ Qk (Qr _) (Qn _ _ _ _ _ Qk (Jj ⟨⟨Qs, Qb _⟩, Qb _⟩) (Qn _ _ _ _ _ Qk (Jj ⟨⟨⟨⟨Qs, Qb _⟩, Qb _⟩, Qb _⟩, Qb _⟩) (Jb _))))))
 rintro v h ⟨x12, l13, mm14, β6, rfl, rfl, rfl⟩
 have H := HK9; clear HK9
 refine Qe (Qj (Qc ?_))
 refine Qa (Ql rfl rfl) ?_
 refine Qa (Ql rfl rfl) ?_
 have hb := Jd H; clear H
 obtain ⟨r46, e48, H⟩ := hb
 refine GoO.effC (ef_call rfl (Qm _) (Qd _ _ _ _ _ Jk (Qm _)) (flow_amount_spec left l13 e48) (Qq (Qp _ _) (Qq (Lend.all' Qw (by first | rfl | omega | (simp only [szl] <;> first | rfl | omega)) rfl) (Qz))) rfl (flow_amount_I (r46))) (fun rr HH hp => ?_)
 obtain ⟨β47, rfl, rfl⟩ := hp
 refine GoO.eff1 (ef_storeAg rfl rfl At.p4 upd_whole Qh rfl) ?_
 refine Qa (Qi rfl rfl) ?_
 refine Qo (Qe ?_)
 obtain rfl := Qf H
 exact Jh (ds := [.ag 2 (nth [.v (.int .i64 r46.amount), .own β47 1 0 r46.arcs.length]), .v (.bool false)]) Tryd.results92 (Qt (ResD.le (ResD.cellAg rfl At.p4 Qh rfl) (by exact DLe.ag ⟨⟨Qs, Qb _⟩, Qb _⟩)) (Qt (Qv rfl) (Je))) (Qd _ _ _ _ _ Qk (Qm _)) ⟨β47, rfl, rfl⟩
def flow_take_B1 (p : Piece) : Nat → (List Int) → Option ((List Int)) := fun k8 l3 =>
 ck (0 ≤ (p.arcs.getD k8 (0 : Int)) ∧ (p.arcs.getD k8 (0 : Int)) < ((l3.length : Nat) : Int)) <|
 ck (InI ((l3.getD ((p.arcs.getD k8 (0 : Int)).toNat) (0 : Int)) - p.amount)) <|
 some (l3.set ((p.arcs.getD k8 (0 : Int)).toNat) ((l3.getD ((p.arcs.getD k8 (0 : Int)).toNat) (0 : Int)) - p.amount))
def flow_take_F (left : (List Int)) (p : Piece) : Option ((List Int)) :=
 (forN (flow_take_B1 p) p.arcs.length 0 left).bind fun l7 =>
 some l7
def flow_take_P (out : (List Int)) (βleft : BK) (d : D) (H : List HL) : Prop := d = .tp 0 (nth []) ∧ H = [.one βleft 3 1 (row out)]
theorem flow_take_I (out : (List Int)) (βleft : BK) : IndepP (flow_take_P out βleft) := IndepP.of (by rintro _ _ ⟨rfl, rfl⟩; exact ⟨inferInstance, inferInstance⟩)
set_option maxRecDepth 100000 in
set_option maxHeartbeats 4000000 in
theorem flow_take_spec (left : (List Int)) (p : Piece) (βleft : BK) {out : (List Int)} (H : flow_take_F left p = some out) : Does Tryd.prog 93 [.own βleft 1 0 left.length, .ag 2 (nth [.v (.int .i64 p.amount), slD p.arcs])] [.one βleft 3 1 (row left)] (flow_take_P out βleft) := by
 unfold flow_take_F at H
 refine Does.intro Tryd.func93 rfl Tryd.ntmps93 rfl fun w0 I0 tb0 => ?_
 refine Qj (Qc ?_)
 refine Jq (ef_boxAg rfl rfl) (fun β1 => ?_)
 refine Qo (Qe (Qj (Qc ?_)))
 refine Qa (Qu rfl rfl) ?_
 refine Qa (Jf rfl Qw Qw Qh rfl rfl) ?_
 refine Qa (ps_len rfl (by constructor) rfl) ?_
 refine GoO.lenLe (n := p.arcs.length) (x := .tmp 7) rfl (by constructor) sl_lenLe (fun ml2 => ?_)
 refine Qa (Ql rfl rfl) ?_
 refine Qo (Qe ?_)
 have hb := Jd H; clear H
 obtain ⟨l7, hl12, HK4⟩ := hb
 refine GoC.blockJ [] [.one β1 128 2 (st1 (nth [.v (.int .i64 p.amount), slD p.arcs]))] (fun v h => v = [] ∧ h = [.one βleft 3 1 (row l7)]) ?_ ?_
 refine GoC.loopJ [(3, _), (7, _), (8, _)] [.one β1 128 2 (st1 (nth [.v (.int .i64 p.amount), slD p.arcs]))] (fun mQ v h => ∃ (k8 : Nat) (l3 : (List Int)), (k8 + mQ = p.arcs.length ∧ forN (flow_take_B1 p) mQ k8 l3 = some l7) ∧ v = [(9, .v (.int .i64 ((k8 : Nat) : Int))), (0, .own βleft 1 0 l3.length)] ∧ h = [.one βleft 3 1 (row l3)]) p.arcs.length ⟨_, _, ⟨by omega, hl12⟩, rfl, rfl⟩ (Qg rfl (Jm rfl (Jp (by first | rfl | omega | (simp only [row_len, gridC_len, rowO_len] <;> first | rfl | omega))) (Qg rfl (Qg rfl (Qg rfl (Qy)))))) (Qn _ _ _ _ _ Jk (Qr _) (Qn _ _ _ _ _ Qk (Jj ⟨⟨Qs, Qb _⟩, Qb _⟩) (Jb _))) ?_
 rintro m9 v h ⟨k8, l3, ⟨hkk8, hF5⟩, rfl, rfl⟩
 refine Qj (Qc ?_)
 refine Qa (ps_lss rfl rfl rfl) ?_
 refine Qo (Qe (Qj ?_))
 refine Jc rfl (fun (hk8 : (k8 : Int) < ((p.arcs.length : Nat) : Int)) => ?_) (fun (hk8 : ¬ (k8 : Int) < ((p.arcs.length : Nat) : Int)) => ?_)
 obtain ⟨m9', rfl⟩ : ∃ x, m9 = x + 1 := ⟨m9 - 1, by omega⟩
 have hb := Jd hF5; clear hF5
 obtain ⟨qrm9, H, hF5⟩ := hb
 have hnk8 : k8 < p.arcs.length := by omega
 have hIk8 : InI ((k8 : Int) + 1) := inI_len hk8 ml2
 refine Jg (Qe (Qj (GoC.block (Qj (Qc ?_)))))
 refine Qa (ps_indexAddrRN rfl rfl hnk8 rfl) ?_
 refine Qa (ps_loadR rfl hnk8 rfl rfl) ?_
 refine Qa (Qi rfl rfl) ?_
 refine Qo (Qe ?_)
 refine GoC.drawP (.q 0 (.q 1 (.q 2 (.q 4 (.q 5 (.one 3 (.q 6 (.q 7 (.one 8 (.done)))))))))) [(3, _, _, _)] follows (by kernel_rfl) (Qd _ _ _ _ _ Jk (Qm _)) ?_
 refine Qx rfl (Ql rfl rfl) ?_
 refine Qx rfl (Ql rfl rfl) ?_
 have c10 := ck_l H; replace H := ck_r H
 refine Qx rfl (ps_indexAddr0 rfl rfl c10 rfl) ?_
 refine Qx rfl (Qu rfl rfl) ?_
 refine Qx rfl (Jf rfl Js Qw Qh rfl rfl) ?_
 refine GoP.oneN rfl (Jf rfl Qw Qw (idx_lt c10) rfl rfl) (Qd _ _ _ _ _ Jk (Qm _)) ?_
 have c11 := ck_l H; replace H := ck_r H
 refine Qx rfl (ps_sub rfl rfl rfl c11) ?_
 refine Qx rfl (ps_indexAddr0 rfl rfl c10 rfl) ?_
 refine GoP.one1 rfl Qs (ef_store rfl rfl rfl Qw (upd_row1 (v := ((l3.getD ((p.arcs.getD k8 (0 : Int)).toNat) (0 : Int)) - p.amount)) rfl) (idx_lt c10) rfl) (Qd _ _ _ _ _ Qk (Qd _ _ _ _ _ Qk (Qm _))) ?_
 refine GoP.done ?_
 refine GoK.blk (Qe (Qc ?_))
 refine Qa (ps_add rfl rfl rfl hIk8) ?_
 refine Qa (Ql rfl rfl) ?_
 refine Qo ?_
 obtain rfl := Qf H
 exact GoK.againJ m9' (by omega) ⟨_, _, ⟨by omega, hF5⟩, rfl, rfl⟩ (Qg rfl (Jm rfl (Jp (by first | rfl | omega | (simp only [row_len, gridC_len, rowO_len, List.length_set] <;> first | rfl | omega))) (Qg rfl (Qg rfl (Qg rfl (Qy)))))) (Qn _ _ _ _ _ Qk (Qr _) (Qn _ _ _ _ _ Qk (Jj ⟨⟨Qs, Qb _⟩, Qb _⟩) (Jb _)))
 obtain rfl : m9 = 0 := by omega
 refine GoC.exit rfl ?_
 cases hF5
 exact Jr ⟨rfl, rfl⟩ (Qy) (Qn _ _ _ _ _ Qk (Qr _) (Qn _ _ _ _ _ Qk (Jj ⟨⟨Qs, Qb _⟩, Qb _⟩) (Jb _)))
 rintro v h ⟨rfl, rfl⟩
 have H := HK4; clear HK4
 obtain rfl := Qf H
 exact GoK.retL (ds := []) Tryd.results93 (Je) (Qd _ _ _ _ _ Qk (Qm _)) ⟨rfl, rfl⟩
def flow_Split_B1 (n : Net) : (Int × (List Int) × (List Piece) × (List Piece)) → Option (Ct (Int × (List Int) × (List Piece) × (List Piece)) ((List Piece) × (List Piece) × Int)) := fun (x10, l11, l13, l15) =>
 if 0 < x10 then
  (flow_piece_F n l11 n.s).bind fun (r25, r27) =>
  ((
   if r27 = true then
    ck (l15.length + 1 ≤ 4398046511104) <|
    some (x10, l13, (l15 ++ ([r25] : List Piece)), r25.amount)
   else
    ck (l13.length + 1 ≤ 4398046511104) <|
    ck (InI (x10 - (min r25.amount x10))) <|
    some ((x10 - (min r25.amount x10)), (l13 ++ ([(⟨(min r25.amount x10), r25.arcs⟩ : Piece)] : List Piece)), l15, (min r25.amount x10))) : Option (Int × (List Piece) × (List Piece) × Int)).bind fun (x30, l32, l34, x35) =>
  (flow_take_F l11 (⟨x35, r25.arcs⟩ : Piece)).bind fun l46 =>
  ck (l46.length = l11.length) <|
  some (.go (x30, l46, l32, l34))
 else
  some (.brk (x10, l11, l13, l15))
def flow_Split_B3 (n : Net) (f : (List Int)) (k59 : Nat) : ((List Int) × (List Piece)) → Option (Ct ((List Int) × (List Piece)) ((List Int) × (List Piece))) := fun (l61, l63) =>
 ck (k59 < l61.length) <|
 if 0 < (l61.getD k59 (0 : Int)) then
  ck (k59 < n.as.length) <|
  (flow_piece_F (⟨n.n, (-1), (-1), n.as⟩ : Net) l61 ((n.as.getD k59 El.d).f)).bind fun (r73, r75) =>
  (flow_take_F l61 r73).bind fun l80 =>
  ck (l80.length = l61.length) <|
  ck (l63.length + 1 ≤ 4398046511104) <|
  some (.go (l80, (l63 ++ ([r73] : List Piece))))
 else
  some (.brk (l61, l63))
def flow_Split_B2 (n : Net) (f : (List Int)) : Nat → ((List Int) × (List Piece)) → Option ((List Int) × (List Piece)) := fun k59 (l51, l53) =>
 (loopC (flow_Split_B3 n f k59) 1000000 (l51, l53)).bind fun q => match q with
 | .go (l67, l68) =>
  some (l67, l68)
 | .ret x => some x
def flow_Split_F (n : Net) (f : (List Int)) : Option ((List Piece) × (List Piece) × Int) :=
 (flow_Value_F n f).bind fun (r2, r3) =>
 if r3 ≠ 0 then
  some ([], [], r3)
 else
  if r2 < 0 then
   some ([], [], 9)
  else
   (slices_Clone_int_F f).bind fun r7 =>
   (loopC (flow_Split_B1 n) 1000000 (r2, r7, [], [])).bind fun q => match q with
   | .go (x19, l20, l21, l22) =>
    (forN (flow_Split_B2 n f) l20.length 0 (l20, l22)).bind fun (l57, l58) =>
    some (l21, l58, 0)
   | .ret x => some x
def flow_Split_P (out : (List Piece) × (List Piece) × Int) (d : D) (H : List HL) : Prop := ∃ β1 β2 : BK, d = .tp 3 (nth [.own β1 2 0 out.1.length, .own β2 2 0 out.2.1.length, .v (.int .i64 out.2.2)]) ∧ H = [.one β1 128 2 (row out.1), .one β2 128 2 (row out.2.1)]
set_option maxRecDepth 100000 in
set_option maxHeartbeats 4000000 in
theorem flow_Split_spec (n : Net) (f : (List Int)) {out : (List Piece) × (List Piece) × Int} (H : flow_Split_F n f = some out) : Does Tryd.prog 79 [.ag 4 (nth [.v (.int .i64 n.n), .v (.int .i64 n.s), .v (.int .i64 n.t), slD n.as]), slD f] [] (flow_Split_P out) := by
 unfold flow_Split_F at H
 refine Does.intro Tryd.func79 rfl Tryd.ntmps79 rfl fun w0 I0 tb0 => ?_
 refine Qj (Qc ?_)
 refine Jq (ef_boxAg rfl rfl) (fun β1 => ?_)
 refine Qa (Qi rfl rfl) ?_
 refine Qa (Qi rfl rfl) ?_
 refine Qa (Qi rfl rfl) ?_
 refine Qo (Qe (Qj (Qc ?_)))
 refine Qa (ps_loadAg rfl Qw Qw Qh rfl rfl) ?_
 refine Qa (Ql rfl rfl) ?_
 have hb := Jd H; clear H
 obtain ⟨⟨r2, r3⟩, e4, H⟩ := hb
 refine GoO.effC (ef_call rfl (Qm _) (Qm _) (flow_Value_spec n f e4) (Qq (Lend.agA ⟨⟨⟨⟨Qs, Qp _ _⟩, Qp _ _⟩, Qp _ _⟩, Qp _ _⟩) (Qq (Qp _ _) (Qz))) rfl (flow_Value_I (r2, r3))) (fun rr HH hp => ?_)
 obtain ⟨rfl, rfl⟩ := hp
 refine Qa (Ql rfl rfl) ?_
 refine Qa (Ji rfl rfl rfl) ?_
 refine Qa (Ji rfl rfl rfl) ?_
 refine Qa (Qi rfl rfl) ?_
 refine Qa (Qi rfl rfl) ?_
 refine Qo (Qe (Qj (Qj (Qc ?_))))
 refine Qa (Ql rfl rfl) ?_
 refine Qa (ps_neq rfl rfl rfl) ?_
 refine Qo (Qe ?_)
 refine Jc rfl (fun h5 => ?_) (fun h5 => ?_)
 replace H := Jt h5 H
 refine Qj (Qc ?_)
 refine Qa (Ql rfl rfl) ?_
 refine Qa (Qi rfl rfl) ?_
 refine Qa (Qi rfl rfl) ?_
 refine Qa (Qi rfl rfl) ?_
 refine Qo (Qe ?_)
 obtain rfl := Qf H
 refine GoC.le (le_row0 128 2 (row ([] : List Piece)) rfl) ?_
 refine GoC.le (le_row0 128 2 (row ([] : List Piece)) rfl) ?_
 exact Jh (ds := [.own ⟨0, 0, 0⟩ 2 0 0, .own ⟨0, 0, 0⟩ 2 0 0, .v (.int .i64 r3)]) Tryd.results79 (Qt (ResD.le (Qv rfl) (by exact DLe.nilOwn)) (Qt (ResD.le (Qv rfl) (by exact DLe.nilOwn)) (Qt (Qv rfl) (Je)))) (Qd _ _ _ _ _ Jk (Qd _ _ _ _ _ Qk (Qm _))) ⟨⟨0, 0, 0⟩, ⟨0, 0, 0⟩, rfl, rfl⟩
 replace H := Ju h5 H
 refine Jg (Qe (Qj (Qj (Qc ?_))))
 refine Qa (Ql rfl rfl) ?_
 refine Qa (ps_lss rfl rfl rfl) ?_
 refine Qo (Qe ?_)
 refine Jc rfl (fun h6 => ?_) (fun h6 => ?_)
 replace H := Jt h6 H
 refine Qj (Qc ?_)
 refine Qa (Qi rfl rfl) ?_
 refine Qa (Qi rfl rfl) ?_
 refine Qa (Qi rfl rfl) ?_
 refine Qo (Qe ?_)
 obtain rfl := Qf H
 refine GoC.le (le_row0 128 2 (row ([] : List Piece)) rfl) ?_
 refine GoC.le (le_row0 128 2 (row ([] : List Piece)) rfl) ?_
 exact Jh (ds := [.own ⟨0, 0, 0⟩ 2 0 0, .own ⟨0, 0, 0⟩ 2 0 0, .v (.int .i64 9)]) Tryd.results79 (Qt (ResD.le (Qv rfl) (by exact DLe.nilOwn)) (Qt (ResD.le (Qv rfl) (by exact DLe.nilOwn)) (Qt (Qv rfl) (Je)))) (Qd _ _ _ _ _ Jk (Qd _ _ _ _ _ Qk (Qm _))) ⟨⟨0, 0, 0⟩, ⟨0, 0, 0⟩, rfl, rfl⟩
 replace H := Ju h6 H
 refine Jg (Qe (Qj (Qc ?_)))
 refine Qa (Ql rfl rfl) ?_
 have hb := Jd H; clear H
 obtain ⟨r7, e9, H⟩ := hb
 refine GoO.effC (ef_call rfl (Qm _) (Qm _) (slices_Clone_int_spec f e9) (Qq (Qp _ _) (Qz)) rfl (slices_Clone_int_I (r7))) (fun rr HH hp => ?_)
 obtain ⟨β8, rfl, rfl⟩ := hp
 refine Qa (Qi rfl rfl) ?_
 refine Qo (Qe (Qj (Qc ?_)))
 refine Qa (Qi rfl rfl) ?_
 refine Qa (Qi rfl rfl) ?_
 refine Qo (Qe (Qj ?_))
 have hb := Jd H; clear H
 obtain ⟨q18, hl49, HK16⟩ := hb
 refine GoC.blockJ [(2, .ptr β1 4 0 0)] [.one β1 42 4 (st1 (nth [.v (.int .i64 n.n), .v (.int .i64 n.s), .v (.int .i64 n.t), slD n.as]))] (fun v h => ∃ (x19 : Int) (l20 : (List Int)) (l21 : (List Piece)) (l22 : (List Piece)) (β12 : BK) (β14 : BK), q18 = .go (x19, l20, l21, l22) ∧ v = [(9, .own β8 1 0 l20.length), (10, .own β12 2 0 l21.length), (11, .own β14 2 0 l22.length)] ∧ h = [.one β8 3 1 (row l20), .one β12 128 2 (row l21), .one β14 128 2 (row l22)]) ?_ ?_
 refine GoC.loopJ [(2, _)] [.one β1 42 4 (st1 (nth [.v (.int .i64 n.n), .v (.int .i64 n.s), .v (.int .i64 n.t), slD n.as]))] (fun mQ v h => ∃ (x10 : Int) (l11 : (List Int)) (l13 : (List Piece)) (l15 : (List Piece)) (β12 : BK) (β14 : BK), loopC (flow_Split_B1 n) mQ (x10, l11, l13, l15) = some q18 ∧ v = [(7, .v (.int .i64 x10)), (9, .own β8 1 0 l11.length), (10, .own β12 2 0 l13.length), (11, .own β14 2 0 l15.length)] ∧ h = [.one β8 3 1 (row l11), .one β12 128 2 (row l13), .one β14 128 2 (row l15)]) 1000000 ⟨_, _, _, _, ⟨0, 0, 0⟩, ⟨0, 0, 0⟩, hl49, rfl, rfl⟩ (Qg rfl (Jm rfl (Jp (by first | rfl | omega | (simp only [row_len, gridC_len, rowO_len] <;> first | rfl | omega))) (Jm rfl (DLe.nilOwn) (Jm rfl (DLe.nilOwn) (Qg rfl (Qy)))))) (Qn _ _ _ _ _ Qk (Qr _) (TkD.no _ _ _ _ _ rfl (TkD.no _ _ _ _ _ rfl (Qn _ _ _ _ _ Qk (Jj ⟨⟨⟨⟨Qs, Qb _⟩, Qb _⟩, Qb _⟩, Qb _⟩) (Jb _))))) ?_
 rintro m23 v h ⟨x10, l11, l13, l15, β12, β14, hF17, rfl, rfl⟩
 obtain ⟨m23', rfl⟩ | rfl : (∃ x, m23 = x + 1) ∨ m23 = 0 := by cases m23 <;> simp
 case inr => cases hF17
 have hb := Jd hF17; clear hF17
 obtain ⟨qrm23, H, hF17⟩ := hb
 refine Qj (Qj (Qc ?_))
 refine Qa (Ql rfl rfl) ?_
 refine Qa (ps_gtr rfl rfl rfl) ?_
 refine Qo (Qe ?_)
 refine Jc rfl (fun h24 => ?_) (fun h24 => ?_)
 replace H := Jt h24 H
 refine Jg (Qe (GoC.block (Qj (Qc ?_))))
 refine Qa (ps_loadAg rfl At.p3 At.p3 Qh rfl rfl) ?_
 refine Qa (Ql rfl rfl) ?_
 refine Qa (Qu rfl rfl) ?_
 refine Qa (Jf rfl At.p3 At.p3 Qh rfl rfl) ?_
 have hb := Jd H; clear H
 obtain ⟨⟨r25, r27⟩, e28, H⟩ := hb
 refine GoO.effC (ef_call rfl (Qm _) (Qd _ _ _ _ _ Qk (Qm _)) (flow_piece_spec n l11 n.s e28) (Qq (Lend.agA ⟨⟨⟨⟨Qs, Qp _ _⟩, Qp _ _⟩, Qp _ _⟩, Qp _ _⟩) (Qq (Lend.all' Qw (by first | rfl | omega | (simp only [szl] <;> first | rfl | omega)) rfl) (Qq (Qp _ _) (Qz)))) rfl (flow_piece_I (r25, r27))) (fun rr HH hp => ?_)
 obtain ⟨β26, rfl, rfl⟩ := hp
 refine Qa (Ql rfl rfl) ?_
 refine Qa (Ji rfl rfl rfl) ?_
 refine Qa (Ji rfl rfl rfl) ?_
 refine Jq (ef_alloc rfl) (fun β29 => ?_)
 refine GoO.eff1 (ef_storeAg rfl rfl Qw upd_whole Qh rfl) ?_
 refine Qa (Qi rfl rfl) ?_
 refine Qo (Qe ?_)
 have hb := Jd H; clear H
 obtain ⟨⟨x30, l32, l34, x35⟩, H, HK36⟩ := hb
 refine GoC.seqJ [(2, .ptr β1 4 0 0), (9, .own β8 1 0 l11.length)] [.one β8 3 1 (row l11), .one β1 42 4 (st1 (nth [.v (.int .i64 n.n), .v (.int .i64 n.s), .v (.int .i64 n.t), slD n.as]))] (fun v h => ∃ (β31 : BK) (β33 : BK), v = [(7, .v (.int .i64 x30)), (10, .own β31 2 0 l32.length), (11, .own β33 2 0 l34.length), (12, .ptr β29 2 0 0)] ∧ h = [.one β31 128 2 (row l32), .one β33 128 2 (row l34), .one β29 128 2 (st1 (nth [.v (.int .i64 x35), slD r25.arcs]))]) ?_ ?_
 refine Qj (Qc ?_)
 refine Qa (Ql rfl rfl) ?_
 refine Qo (Qe ?_)
 refine GoC.cond rfl (fun h38 => ?_) (fun h38 => ?_)
 replace H := itb_t h38 H
 refine Qc ?_
 refine Qa (Ql rfl rfl) ?_
 refine Qa (ps_loadAg rfl Qw Qw Qh rfl rfl) ?_
 refine GoO.freezeB (j := 42) (r' := .ag 2 (nth [.v (.int .i64 r25.amount), slD r25.arcs])) rfl Jk (Lend.agA ⟨⟨Qs, Qp _ _⟩, Lend.all' Qw (by first | rfl | omega | (simp only [row_len, gridC_len, rowO_len] <;> first | rfl | omega)) rfl⟩) no_fps (g' := nth [.v (.int .i64 r25.amount), slD r25.arcs]) Qw ⟨⟨Qs, Qp _ _⟩, Lend.all' Qw (by first | rfl | omega | (simp only [row_len, gridC_len, rowO_len] <;> first | rfl | omega)) rfl⟩ ?_
 refine Jq (ef_buildSlice (row ([r25] : List Piece)) rfl (Jn _ _ _ _ _ _ _ _ ⟨rfl, rfl⟩ (Part.ag _ _ rfl) rfl rfl (Parts.nil _)) rfl rfl rfl rfl) (fun β39 => ?_)
 have c41 := ck_l H; replace H := ck_r H
 refine Jq (ef_append rfl rfl Rem.p4 (Src.own Qw (by first | omega | (simp only [szl]; omega) | (simp only [szl]; done))) (cat_row (α := Piece) (by first | rfl | omega | (simp only [szl] <;> first | rfl | omega)) (by first | rfl | omega | (simp only [szl] <;> first | rfl | omega)) (fun _ _ _ _ => rfl)) (by first | omega | (simp only [szl]; omega) | (simp only [szl]; done)) (app_le c41 rfl) rfl rfl rfl) (fun β40 => ?_)
 refine Qa (Qi rfl rfl) ?_
 refine Qo ?_
 cases H
 exact Jr ⟨β12, β40, rfl, rfl⟩ (Qg rfl (Jm rfl (Jp (by first | rfl | omega | (simp only [row_len, gridC_len, rowO_len] <;> first | rfl | omega))) (Jm rfl (Jp (by first | rfl | omega | (simp only [row_len, gridC_len, rowO_len, List.length_append, List.length_cons, List.length_nil] <;> first | rfl | omega))) (Qg rfl (Qg rfl (Qg rfl (Qy))))))) (Qn _ _ _ _ _ Rem.p4 (Qr _) (Qn _ _ _ _ _ Qk (Qr _) (Qn _ _ _ _ _ Jk (Jj ⟨⟨Qs, Qb _⟩, Qb _⟩) (Qn _ _ _ _ _ Jk (Qr _) (Qn _ _ _ _ _ Jk (Jj ⟨⟨⟨⟨Qs, Qb _⟩, Qb _⟩, Qb _⟩, Qb _⟩) (Jb _))))))
 replace H := itb_f h38 H
 refine Qj (Qc ?_)
 refine Qa (Qu rfl rfl) ?_
 refine Qa (Jf rfl Qw Qw Qh rfl rfl) ?_
 refine Qa (Ql rfl rfl) ?_
 refine Qa (ps_min rfl rfl rfl) ?_
 refine Qa (Qu rfl rfl) ?_
 refine GoO.eff1 (ef_store rfl rfl rfl Qw upd_st1 Qh rfl) ?_
 refine Qo (Qe (Qj (Qc ?_)))
 refine Qa (Ql rfl rfl) ?_
 refine Qa (ps_loadAg rfl Qw Qw Qh rfl rfl) ?_
 refine GoO.freezeB (j := 51) (r' := .ag 2 (nth [.v (.int .i64 (min r25.amount x10)), slD r25.arcs])) rfl Jk (Lend.agA ⟨⟨Qs, Qp _ _⟩, Lend.all' Qw (by first | rfl | omega | (simp only [row_len, gridC_len, rowO_len] <;> first | rfl | omega)) rfl⟩) no_fps (g' := nth [.v (.int .i64 (min r25.amount x10)), slD r25.arcs]) Qw ⟨⟨Qs, Qp _ _⟩, Lend.all' Qw (by first | rfl | omega | (simp only [row_len, gridC_len, rowO_len] <;> first | rfl | omega)) rfl⟩ ?_
 refine Jq (ef_buildSlice (row ([(⟨(min r25.amount x10), r25.arcs⟩ : Piece)] : List Piece)) rfl (Jn _ _ _ _ _ _ _ _ ⟨rfl, rfl⟩ (Part.ag _ _ rfl) rfl rfl (Parts.nil _)) rfl rfl rfl rfl) (fun β42 => ?_)
 have c44 := ck_l H; replace H := ck_r H
 refine Jq (ef_append rfl rfl Rem.p3 (Src.own Qw (by first | omega | (simp only [szl]; omega) | (simp only [szl]; done))) (cat_row (α := Piece) (by first | rfl | omega | (simp only [szl] <;> first | rfl | omega)) (by first | rfl | omega | (simp only [szl] <;> first | rfl | omega)) (fun _ _ _ _ => rfl)) (by first | omega | (simp only [szl]; omega) | (simp only [szl]; done)) (app_le c44 rfl) rfl rfl rfl) (fun β43 => ?_)
 refine Qa (Qi rfl rfl) ?_
 refine Qo (Qe (Qc ?_))
 refine Qa (Ql rfl rfl) ?_
 refine Qa (Qu rfl rfl) ?_
 refine Qa (Jf rfl At.p2 At.p2 Qh rfl rfl) ?_
 have c45 := ck_l H; replace H := ck_r H
 refine Qa (ps_sub rfl rfl rfl c45) ?_
 refine Qa (Qi rfl rfl) ?_
 refine Qo ?_
 cases H
 exact Jr ⟨β43, β14, rfl, rfl⟩ (Qg rfl (Jm rfl (Jp (by first | rfl | omega | (simp only [row_len, gridC_len, rowO_len, List.length_append, List.length_cons, List.length_nil] <;> first | rfl | omega))) (Jm rfl (Jp (by first | rfl | omega | (simp only [row_len, gridC_len, rowO_len] <;> first | rfl | omega))) (Qg rfl (Qg rfl (Qg rfl (Qy))))))) (Qn _ _ _ _ _ Qk (Qr _) (Qn _ _ _ _ _ Rem.p3 (Qr _) (Qn _ _ _ _ _ Jk (Jj ⟨⟨Qs, Qb _⟩, Qb _⟩) (Qn _ _ _ _ _ Jk (Qr _) (Qn _ _ _ _ _ Jk (Jj ⟨⟨⟨⟨Qs, Qb _⟩, Qb _⟩, Qb _⟩, Qb _⟩) (Jb _))))))
 rintro v h ⟨β31, β33, rfl, rfl⟩
 have H := HK36; clear HK36
 refine Qc ?_
 refine Qa (Ql rfl rfl) ?_
 refine Qa (ps_loadAg rfl At.p2 At.p2 Qh rfl rfl) ?_
 have hb := Jd H; clear H
 obtain ⟨l46, e47, H⟩ := hb
 have c48 := ck_l H; replace H := ck_r H
 refine GoO.effC (ef_call rfl (Qd _ _ _ _ _ Rem.p3 (Qm _)) (Qm _) (flow_take_spec l11 (⟨x35, r25.arcs⟩ : Piece) β8 e47) (Qq (Qp _ _) (Qq (Lend.agA ⟨⟨Qs, Qp _ _⟩, Qp _ _⟩) (Qz))) rfl (flow_take_I (l46) β8)) (fun rr HH hp => ?_)
 obtain ⟨rfl, rfl⟩ := hp
 refine Qo (GoK.blk ?_)
 obtain rfl := Qf H
 exact GoK.againJ m23' (by omega) ⟨_, _, _, _, β31, β33, hF17, rfl, rfl⟩ (Qg rfl (Jm rfl (Jp (by first | rfl | omega | (simp only [row_len, gridC_len, rowO_len, c48] <;> first | rfl | omega))) (Jm rfl (Jp (by first | rfl | omega | (simp only [row_len, gridC_len, rowO_len, c48] <;> first | rfl | omega))) (Jm rfl (Jp (by first | rfl | omega | (simp only [row_len, gridC_len, rowO_len, c48] <;> first | rfl | omega))) (Qg rfl (Qy)))))) (Qn _ _ _ _ _ Qk (Qr _) (Qn _ _ _ _ _ Qk (Qr _) (Qn _ _ _ _ _ Qk (Qr _) (Qn _ _ _ _ _ Jk (Jj ⟨⟨⟨⟨Qs, Qb _⟩, Qb _⟩, Qb _⟩, Qb _⟩) (Jb _)))))
 replace H := Ju h24 H
 refine GoC.exit rfl ?_
 obtain rfl := Qf H
 obtain rfl := Qf hF17
 exact Jr ⟨_, _, _, _, β12, β14, rfl, rfl, rfl⟩ (Jm rfl (Jp (by first | rfl | omega | (simp only [row_len, gridC_len, rowO_len] <;> first | rfl | omega))) (Jm rfl (Jp (by first | rfl | omega | (simp only [row_len, gridC_len, rowO_len] <;> first | rfl | omega))) (Jm rfl (Jp (by first | rfl | omega | (simp only [row_len, gridC_len, rowO_len] <;> first | rfl | omega))) (Qg rfl (Qy))))) (Qn _ _ _ _ _ Qk (Qr _) (Qn _ _ _ _ _ Qk (Qr _) (Qn _ _ _ _ _ Qk (Qr _) (Qn _ _ _ _ _ Qk (Jj ⟨⟨⟨⟨Qs, Qb _⟩, Qb _⟩, Qb _⟩, Qb _⟩) (Jb _)))))
 rintro v h ⟨x19, l20, l21, l22, β12, β14, rfl, rfl, rfl⟩
 have H := HK16; clear HK16
 refine Qe (Qj (Qj (Qc ?_)))
 refine Qa (Ql rfl rfl) ?_
 refine Qa (ps_len rfl (by constructor) rfl) ?_
 refine GoO.lenLe (n := l20.length) (x := .tmp 61) rfl (by constructor) own_lenLe (fun ml50 => ?_)
 refine Qa (Ql rfl rfl) ?_
 refine Qo (Qe ?_)
 have hb := Jd H; clear H
 obtain ⟨⟨l57, l58⟩, hl87, HK54⟩ := hb
 refine GoC.blockJ [(10, .own β12 2 0 l21.length)] [.one β12 128 2 (row l21), .one β1 42 4 (st1 (nth [.v (.int .i64 n.n), .v (.int .i64 n.s), .v (.int .i64 n.t), slD n.as]))] (fun v h => ∃ (β52 : BK), v = [(11, .own β52 2 0 l58.length)] ∧ h = [.one β8 3 1 (row l57), .one β52 128 2 (row l58)]) ?_ ?_
 refine GoC.loopJ [(2, _), (10, _), (62, _)] [.one β12 128 2 (row l21), .one β1 42 4 (st1 (nth [.v (.int .i64 n.n), .v (.int .i64 n.s), .v (.int .i64 n.t), slD n.as]))] (fun mQ v h => ∃ (k59 : Nat) (l51 : (List Int)) (l53 : (List Piece)) (β52 : BK), (k59 + mQ = l20.length ∧ forN (flow_Split_B2 n f) mQ k59 (l51, l53) = some (l57, l58)) ∧ v = [(63, .v (.int .i64 ((k59 : Nat) : Int))), (9, .own β8 1 0 l51.length), (11, .own β52 2 0 l53.length)] ∧ h = [.one β8 3 1 (row l51), .one β52 128 2 (row l53)]) l20.length ⟨_, _, _, β14, ⟨by omega, hl87⟩, rfl, rfl⟩ (Qg rfl (Jm rfl (Jp (by first | rfl | omega | (simp only [row_len, gridC_len, rowO_len] <;> first | rfl | omega))) (Jm rfl (Jp (by first | rfl | omega | (simp only [row_len, gridC_len, rowO_len] <;> first | rfl | omega))) (Qg rfl (Qg rfl (Qg rfl (Qy))))))) (Qn _ _ _ _ _ Qk (Qr _) (Qn _ _ _ _ _ Jk (Qr _) (Qn _ _ _ _ _ Qk (Qr _) (Qn _ _ _ _ _ Qk (Jj ⟨⟨⟨⟨Qs, Qb _⟩, Qb _⟩, Qb _⟩, Qb _⟩) (Jb _))))) ?_
 rintro m60 v h ⟨k59, l51, l53, β52, ⟨hkk59, hF55⟩, rfl, rfl⟩
 refine Qj (Qc ?_)
 refine Qa (ps_lss rfl rfl rfl) ?_
 refine Qo (Qe (Qj ?_))
 refine Jc rfl (fun (hk59 : (k59 : Int) < ((l20.length : Nat) : Int)) => ?_) (fun (hk59 : ¬ (k59 : Int) < ((l20.length : Nat) : Int)) => ?_)
 obtain ⟨m60', rfl⟩ : ∃ x, m60 = x + 1 := ⟨m60 - 1, by omega⟩
 have hb := Jd hF55; clear hF55
 obtain ⟨qrm60, H, hF55⟩ := hb
 have hnk59 : k59 < l20.length := by omega
 have hIk59 : InI ((k59 : Int) + 1) := inI_len hk59 ml50
 refine Jg (Qe (Qj (GoC.block (Qj (Qc ?_)))))
 refine Qa (Ql rfl rfl) ?_
 refine Qa (Qi rfl rfl) ?_
 refine Qo (Qe ?_)
 have hb := Jd H; clear H
 obtain ⟨q66, hl86, HK64⟩ := hb
 refine GoC.blockJ [(2, .ptr β1 4 0 0), (10, .own β12 2 0 l21.length), (62, .v (.int .i64 ((l20.length : Nat) : Int))), (63, .v (.int .i64 ((k59 : Nat) : Int)))] [.one β12 128 2 (row l21), .one β1 42 4 (st1 (nth [.v (.int .i64 n.n), .v (.int .i64 n.s), .v (.int .i64 n.t), slD n.as]))] (fun v h => ∃ (l67 : (List Int)) (l68 : (List Piece)) (β62 : BK), q66 = .go (l67, l68) ∧ v = [(9, .own β8 1 0 l67.length), (11, .own β62 2 0 l68.length)] ∧ h = [.one β8 3 1 (row l67), .one β62 128 2 (row l68)]) ?_ ?_
 refine GoC.loopJ [(2, _), (10, _), (14, _), (62, _), (63, _)] [.one β12 128 2 (row l21), .one β1 42 4 (st1 (nth [.v (.int .i64 n.n), .v (.int .i64 n.s), .v (.int .i64 n.t), slD n.as]))] (fun mQ v h => ∃ (l61 : (List Int)) (l63 : (List Piece)) (β62 : BK), loopC (flow_Split_B3 n f k59) mQ (l61, l63) = some q66 ∧ v = [(9, .own β8 1 0 l61.length), (11, .own β62 2 0 l63.length)] ∧ h = [.one β8 3 1 (row l61), .one β62 128 2 (row l63)]) 1000000 ⟨_, _, β52, hl86, rfl, rfl⟩ (Jm rfl (Jp (by first | rfl | omega | (simp only [row_len, gridC_len, rowO_len] <;> first | rfl | omega))) (Jm rfl (Jp (by first | rfl | omega | (simp only [row_len, gridC_len, rowO_len] <;> first | rfl | omega))) (Qg rfl (Qg rfl (Qg rfl (Qg rfl (Qg rfl (Qy)))))))) (Qn _ _ _ _ _ Qk (Qr _) (Qn _ _ _ _ _ Qk (Qr _) (Qn _ _ _ _ _ Qk (Qr _) (Qn _ _ _ _ _ Qk (Jj ⟨⟨⟨⟨Qs, Qb _⟩, Qb _⟩, Qb _⟩, Qb _⟩) (Jb _))))) ?_
 rintro m69 v h ⟨l61, l63, β62, hF65, rfl, rfl⟩
 obtain ⟨m69', rfl⟩ | rfl : (∃ x, m69 = x + 1) ∨ m69 = 0 := by cases m69 <;> simp
 case inr => cases hF65
 have hb := Jd hF65; clear hF65
 obtain ⟨qrm69, H, hF65⟩ := hb
 refine Qj (Qj (Qc ?_))
 refine Qa (Ql rfl rfl) ?_
 refine Qa (Ql rfl rfl) ?_
 have c70 := ck_l H; replace H := ck_r H
 refine Qa (ps_indexAddr0N rfl rfl c70 rfl) ?_
 refine Qa (Jf rfl Qw Qw c70 rfl rfl) ?_
 refine Qa (ps_gtr rfl rfl rfl) ?_
 refine Qo (Qe ?_)
 refine Jc rfl (fun h71 => ?_) (fun h71 => ?_)
 replace H := Jt h71 H
 refine Jg (Qe (GoC.block (Qj ?_)))
 refine GoC.drawA (.q 0 (.q 1 (.q 2 (.q 3 (.q 4 (.q 5 (.q 6 (.q 7 (.q 8 (.q 9 (.q 10 (.q 11 (.two 12 16 (.q 13 (.q 14 (.q 15 (.one 16 (.one 17 (.q 18 (.done))))))) (.one 12 (.q 13 (.q 14 (.q 15 (.one 17 (.q 18 (.done)))))))))))))))))))) follows (by kernel_rfl) ?_
 refine Qx rfl (Qu rfl rfl) ?_
 refine Qx rfl (Jf rfl At.p3 At.p3 Qh rfl rfl) ?_
 refine Qx rfl (Qu rfl rfl) ?_
 refine Qx rfl (Jf rfl At.p3 At.p3 Qh rfl rfl) ?_
 refine Qx rfl (ps_build (Jn _ _ _ _ _ _ _ _ FdP.of (Part.one _ rfl rfl) rfl rfl (Jn _ _ _ _ _ _ _ _ FdP.of (Part.one _ rfl rfl) rfl rfl (Jn _ _ _ _ _ _ _ _ FdP.of (Part.one _ rfl rfl) rfl rfl (Jn _ _ _ _ _ _ _ _ FdP.of (Part.one _ rfl rfl) rfl rfl (Parts.nil _))))) rfl) ?_
 refine Qx rfl (Ql rfl rfl) ?_
 refine Qx rfl (Qu rfl rfl) ?_
 refine Qx rfl (Jf rfl At.p3 At.p3 Qh rfl rfl) ?_
 refine Qx rfl (Ql rfl rfl) ?_
 have c72 := ck_l H; replace H := ck_r H
 refine Qx rfl (ps_indexAddrRN rfl rfl c72 rfl) ?_
 refine Qx rfl (ps_fieldAddrR rfl rfl) ?_
 refine Qx rfl (ps_loadR rfl c72 rfl rfl) ?_
 have hb := Jd H; clear H
 obtain ⟨⟨r73, r75⟩, e76, H⟩ := hb
 apply GoP.fork2
 exact rfl
 exact rfl
 exact Qs
 exact Qs
 exact ef_call rfl (Qm _) (Qd _ _ _ _ _ Qk (Qm _)) (flow_piece_spec (⟨n.n, (-1), (-1), n.as⟩ : Net) l61 ((n.as.getD k59 El.d).f) e76) (Qq (Lend.agA ⟨⟨⟨⟨Qs, Qp _ _⟩, Qp _ _⟩, Qp _ _⟩, Qp _ _⟩) (Qq (Lend.all' Qw (by first | rfl | omega | (simp only [szl] <;> first | rfl | omega)) rfl) (Qq (Qp _ _) (Qz)))) rfl (flow_piece_I (r73, r75))
 exact ef_alloc rfl
 exact (Qd _ _ _ _ _ Qk (Qd _ _ _ _ _ Qk (Qd _ _ _ _ _ Qk (Qd _ _ _ _ _ Qk (Qm _)))))
 exact (Qd _ _ _ _ _ Qk (Qd _ _ _ _ _ Qk (Qd _ _ _ _ _ Qk (Qd _ _ _ _ _ Qk (Qm _)))))
 intro hQ
 rintro _ ⟨_, _, hp, rfl⟩
 obtain ⟨β74, rfl, rfl⟩ := hp
 refine Qx rfl (Ql rfl rfl) ?_
 refine Qx rfl (Ji rfl rfl rfl) ?_
 refine Qx rfl (Ji rfl rfl rfl) ?_
 refine GoP.oneB rfl Qs (ef_alloc rfl) (Qd _ _ _ _ _ Jk (Qd _ _ _ _ _ Jk (Qd _ _ _ _ _ Jk (Qd _ _ _ _ _ Jk (Qm _))))) (fun β79 => ?_)
 refine GoP.one1 rfl Qs (ef_storeAg rfl rfl Qw upd_whole Qh rfl) (Qd _ _ _ _ _ Qk (Qd _ _ _ _ _ Jk (Qd _ _ _ _ _ Jk (Qd _ _ _ _ _ Jk (Qd _ _ _ _ _ Jk (Qm _)))))) ?_
 refine Qx rfl (Qi rfl rfl) ?_
 exact GoP.done (hQ β74 β79)
 intro hQ
 rintro _ ⟨β78, rfl⟩
 refine GoP.oneC rfl Qs (ef_call rfl (Qm _) (Qd _ _ _ _ _ Jk (Qm _)) (flow_piece_spec (⟨n.n, (-1), (-1), n.as⟩ : Net) l61 ((n.as.getD k59 El.d).f) e76) (Qq (Lend.agA ⟨⟨⟨⟨Qs, Qp _ _⟩, Qp _ _⟩, Qp _ _⟩, Qp _ _⟩) (Qq (Lend.all' Qw (by first | rfl | omega | (simp only [szl] <;> first | rfl | omega)) rfl) (Qq (Qp _ _) (Qz)))) rfl (flow_piece_I (r73, r75))) (Qd _ _ _ _ _ Jk (Qd _ _ _ _ _ Jk (Qd _ _ _ _ _ Jk (Qd _ _ _ _ _ Jk (Qm _))))) (fun rr HH hp => ?_)
 obtain ⟨β74, rfl, rfl⟩ := hp
 refine Qx rfl (Ql rfl rfl) ?_
 refine Qx rfl (Ji rfl rfl rfl) ?_
 refine Qx rfl (Ji rfl rfl rfl) ?_
 refine GoP.one1 rfl Qs (ef_storeAg rfl rfl Js upd_whole Qh rfl) (Qd _ _ _ _ _ Jk (Qd _ _ _ _ _ Jk (Qd _ _ _ _ _ Jk (Qd _ _ _ _ _ Jk (Qd _ _ _ _ _ Jk (Qm _)))))) ?_
 refine Qx rfl (Qi rfl rfl) ?_
 refine GoP.done (GoK.le ?_ (hQ β74 β78))
 refine Le.ofDW ?_ (Qn _ _ _ _ _ Jk (Qr _) (Qn _ _ _ _ _ Qk (Qr _) (Qn _ _ _ _ _ Qk (Qr _) (Qn _ _ _ _ _ Qk (Qr _) (Qn _ _ _ _ _ Qk (Qr _) (Qn _ _ _ _ _ Qk (Qr _) (Jb _)))))))
 repeat (first | exact EnvLeW.nil | refine EnvLeW.cons rfl ?_ | refine EnvLeW.skip rfl ?_)
 intro β74 β79
 refine Qe (Qj (Qc ?_))
 refine Qa (Ql rfl rfl) ?_
 refine Qa (ps_loadAg rfl Qw Qw Qh rfl rfl) ?_
 have hb := Jd H; clear H
 obtain ⟨l80, e81, H⟩ := hb
 have c82 := ck_l H; replace H := ck_r H
 refine GoO.effC (ef_call rfl (Qd _ _ _ _ _ Rem.p2 (Qm _)) (Qd _ _ _ _ _ Jk (Qm _)) (flow_take_spec l61 r73 β8 e81) (Qq (Qp _ _) (Qq (Lend.agA ⟨⟨Qs, Qp _ _⟩, Lend.all' Qw (by first | rfl | omega | (simp only [szl] <;> first | rfl | omega)) rfl⟩) (Qz))) rfl (flow_take_I (l80) β8)) (fun rr HH hp => ?_)
 obtain ⟨rfl, rfl⟩ := hp
 refine Qo (Qe (Qc ?_))
 refine Qa (Ql rfl rfl) ?_
 refine Qa (ps_loadAg rfl Js Js Qh rfl rfl) ?_
 refine GoO.freezeB (j := 91) (r' := .ag 2 (nth [.v (.int .i64 r73.amount), slD r73.arcs])) rfl Rem.p2 (Lend.agA ⟨⟨Qs, Qp _ _⟩, Lend.all' Qw (by first | rfl | omega | (simp only [row_len, gridC_len, rowO_len, c82] <;> first | rfl | omega)) rfl⟩) no_fps (g' := nth [.v (.int .i64 r73.amount), slD r73.arcs]) Js ⟨⟨Qs, Qp _ _⟩, Lend.all' Qw (by first | rfl | omega | (simp only [row_len, gridC_len, rowO_len, c82] <;> first | rfl | omega)) rfl⟩ ?_
 refine Jq (ef_buildSlice (row ([r73] : List Piece)) rfl (Jn _ _ _ _ _ _ _ _ ⟨rfl, rfl⟩ (Part.ag _ _ rfl) rfl rfl (Parts.nil _)) rfl rfl rfl rfl) (fun β83 => ?_)
 have c85 := ck_l H; replace H := ck_r H
 refine Jq (ef_append rfl rfl Rem.p3 (Src.own Qw (by first | omega | (simp only [szl, c82]; omega) | (simp only [szl, c82]; done))) (cat_row (α := Piece) (by first | rfl | omega | (simp only [szl, c82] <;> first | rfl | omega)) (by first | rfl | omega | (simp only [szl, c82] <;> first | rfl | omega)) (fun _ _ _ _ => rfl)) (by first | omega | (simp only [szl, c82]; omega) | (simp only [szl, c82]; done)) (app_le c85 rfl) rfl rfl rfl) (fun β84 => ?_)
 refine Qa (Qi rfl rfl) ?_
 refine Qo (GoK.blk ?_)
 obtain rfl := Qf H
 exact GoK.againJ m69' (by omega) ⟨_, _, β84, hF65, rfl, rfl⟩ (Jm rfl (Jp (by first | rfl | omega | (simp only [row_len, gridC_len, rowO_len, c82] <;> first | rfl | omega))) (Jm rfl (Jp (by first | rfl | omega | (simp only [row_len, gridC_len, rowO_len, List.length_append, List.length_cons, List.length_nil, c82] <;> first | rfl | omega))) (Qg rfl (Qg rfl (Qg rfl (Qg rfl (Qg rfl (Qy)))))))) (Qn _ _ _ _ _ Rem.p2 (Qr _) (Qn _ _ _ _ _ Qk (Qr _) (Qn _ _ _ _ _ Rem.p2 (Qr _) (Qn _ _ _ _ _ Rem.p2 (Jj ⟨⟨⟨⟨Qs, Qb _⟩, Qb _⟩, Qb _⟩, Qb _⟩) (Jb _)))))
 replace H := Ju h71 H
 refine GoC.exit rfl ?_
 obtain rfl := Qf H
 obtain rfl := Qf hF65
 exact Jr ⟨_, _, β62, rfl, rfl, rfl⟩ (Jm rfl (Jp (by first | rfl | omega | (simp only [row_len, gridC_len, rowO_len] <;> first | rfl | omega))) (Jm rfl (Jp (by first | rfl | omega | (simp only [row_len, gridC_len, rowO_len] <;> first | rfl | omega))) (Qg rfl (Qg rfl (Qg rfl (Qg rfl (Qy))))))) (Qn _ _ _ _ _ Qk (Qr _) (Qn _ _ _ _ _ Qk (Qr _) (Qn _ _ _ _ _ Qk (Qr _) (Qn _ _ _ _ _ Qk (Jj ⟨⟨⟨⟨Qs, Qb _⟩, Qb _⟩, Qb _⟩, Qb _⟩) (Jb _)))))
 rintro v h ⟨l67, l68, β62, rfl, rfl, rfl⟩
 have H := HK64; clear HK64
 refine GoK.blk (Qe (Qc ?_))
 refine Qa (ps_add rfl rfl rfl hIk59) ?_
 refine Qa (Ql rfl rfl) ?_
 refine Qo ?_
 obtain rfl := Qf H
 exact GoK.againJ m60' (by omega) ⟨_, _, _, β62, ⟨by omega, hF55⟩, rfl, rfl⟩ (Qg rfl (Jm rfl (Jp (by first | rfl | omega | (simp only [row_len, gridC_len, rowO_len] <;> first | rfl | omega))) (Jm rfl (Jp (by first | rfl | omega | (simp only [row_len, gridC_len, rowO_len] <;> first | rfl | omega))) (Qg rfl (Qg rfl (Qg rfl (Qy))))))) (Qn _ _ _ _ _ Qk (Qr _) (Qn _ _ _ _ _ Qk (Qr _) (Qn _ _ _ _ _ Qk (Qr _) (Qn _ _ _ _ _ Qk (Jj ⟨⟨⟨⟨Qs, Qb _⟩, Qb _⟩, Qb _⟩, Qb _⟩) (Jb _)))))
 obtain rfl : m60 = 0 := by omega
 refine GoC.exit rfl ?_
 cases hF55
 exact Jr ⟨β52, rfl, rfl⟩ (Jm rfl (Jp (by first | rfl | omega | (simp only [row_len, gridC_len, rowO_len] <;> first | rfl | omega))) (Qg rfl (Qy))) (Qn _ _ _ _ _ Qk (Qr _) (Qn _ _ _ _ _ Qk (Qr _) (Qn _ _ _ _ _ Qk (Qr _) (Qn _ _ _ _ _ Qk (Jj ⟨⟨⟨⟨Qs, Qb _⟩, Qb _⟩, Qb _⟩, Qb _⟩) (Jb _)))))
 rintro v h ⟨β52, rfl, rfl⟩
 have H := HK54; clear HK54
 refine Qe (Qj (Qc ?_))
 refine Qa (Ql rfl rfl) ?_
 refine Qa (Ql rfl rfl) ?_
 refine Qa (Qi rfl rfl) ?_
 refine Qa (Qi rfl rfl) ?_
 refine Qa (Qi rfl rfl) ?_
 refine Qo (Qe ?_)
 obtain rfl := Qf H
 exact Jh (ds := [.own β12 2 0 l21.length, .own β52 2 0 l58.length, .v (.int .i64 0)]) Tryd.results79 (Qt (Qv rfl) (Qt (Qv rfl) (Qt (Qv rfl) (Je)))) (Qd _ _ _ _ _ Rem.p2 (Qd _ _ _ _ _ Jk (Qm _))) ⟨β12, β52, rfl, rfl⟩
end Go.Proofs.YthchdnemndolbaaDoor
