import Derived.Test.YthchdnemndolbaaDoorQTys
import Derived.Test.YthchdnemndolbaaDoorQDat
import Derived.Test.YthchdnemndolbaaDoorQGmost
namespace Go.Proofs.YthchdnemndolbaaDoor
open Go Go.Proofs.YthchdnemndolbaaDoor.Sx
set_option linter.unusedVariables false
set_option linter.unusedSimpArgs false
def cut_spread_B2 (n : Net) (f : (List Int)) (turned : Bool) : Nat → Int → Option (Int) := fun k17 x12 =>
 ((
  if turned = true then
   some ((n.as.getD k17 El.d).t, (n.as.getD k17 El.d).f)
  else
   some ((n.as.getD k17 El.d).f, (n.as.getD k17 El.d).t)) : Option (Int × Int)).bind fun (x20, x21) =>
 ((
  ck (k17 < f.length) <|
  if (f.getD k17 (0 : Int)) < ((n.as.getD k17 El.d).c) then
   ck (0 ≤ x20) <|
   if (bitsOf .and .u16 (Int.fdiv x12 (2 ^ min x20.toNat 16)) 1) = 1 then
    ck (0 ≤ x21) <|
    some (bitsOf .or .u16 x12 (IntKind.u16.wrap (1 * 2 ^ min x21.toNat 16)))
   else
    some x12
  else
   some x12) : Option (Int)).bind fun x25 =>
 ck (k17 < f.length) <|
 if 0 < (f.getD k17 (0 : Int)) then
  ck (0 ≤ x21) <|
  if (bitsOf .and .u16 (Int.fdiv x25 (2 ^ min x21.toNat 16)) 1) = 1 then
   ck (0 ≤ x20) <|
   some (bitsOf .or .u16 x25 (IntKind.u16.wrap (1 * 2 ^ min x20.toNat 16)))
  else
   some x25
 else
  some x25
def cut_spread_B1 (n : Net) (f : (List Int)) (turned : Bool) : Nat → Int → Option (Int) := fun k9 x4 =>
 (forN (cut_spread_B2 n f turned) n.as.length 0 x4).bind fun x16 =>
 some x16
def cut_spread_F (n : Net) (f : (List Int)) (at_ : Int) (turned : Bool) : Option (Int) :=
 ck (0 ≤ at_) <|
 ck (InI n.n) <|
 (forN (cut_spread_B1 n f turned) n.n.toNat 0 (IntKind.u16.wrap (1 * 2 ^ min at_.toNat 16))).bind fun x8 =>
 some x8
def cut_spread_P (out : Int) (d : D) (H : List HL) : Prop := d = .v (.int .u16 out) ∧ H = []
theorem cut_spread_I (out : Int) : IndepP (cut_spread_P out) := IndepP.of (by rintro _ _ ⟨rfl, rfl⟩; exact ⟨inferInstance, inferInstance⟩)
set_option maxRecDepth 100000 in
set_option maxHeartbeats 4000000 in
theorem cut_spread_spec (n : Net) (f : (List Int)) (at_ : Int) (turned : Bool) {out : Int} (H : cut_spread_F n f at_ turned = some out) : Does Tryd.prog 87 [.ag 4 (nth [.v (.int .i64 n.n), .v (.int .i64 n.s), .v (.int .i64 n.t), slD n.as]), slD f, .v (.int .i64 at_), .v (.bool turned)] [] (cut_spread_P out) := by
 unfold cut_spread_F at H
 refine Does.intro Tryd.func87 rfl Tryd.ntmps87 rfl fun w0 I0 tb0 => ?_
 refine Qj (Qc ?_)
 refine Jq (ef_boxAg rfl rfl) (fun β1 => ?_)
 refine Qa (Qi rfl rfl) ?_
 refine Qo (Qe (Qj (Qc ?_)))
 refine Qa (Ql rfl rfl) ?_
 have c2 := ck_l H; replace H := ck_r H
 refine Qa (ps_shl rfl rfl rfl c2) ?_
 refine Qa (Qi rfl rfl) ?_
 refine Qo (Qe (Qj (Qj (Qc ?_))))
 refine Qa (Qu rfl rfl) ?_
 refine Qa (Jf rfl Qw Qw Qh rfl rfl) ?_
 refine Qa (Ql rfl rfl) ?_
 refine Qo (Qe ?_)
 have c3 := ck_l H; replace H := ck_r H
 have hb := Jd H; clear H
 obtain ⟨x8, hl39, HK5⟩ := hb
 refine GoC.blockJ [] [.one β1 42 4 (st1 (nth [.v (.int .i64 n.n), .v (.int .i64 n.s), .v (.int .i64 n.t), slD n.as]))] (fun v h => v = [(9, .v (.int .u16 x8))] ∧ h = []) ?_ ?_
 refine GoC.loopJ [(1, _), (3, _), (4, _), (17, _)] [.one β1 42 4 (st1 (nth [.v (.int .i64 n.n), .v (.int .i64 n.s), .v (.int .i64 n.t), slD n.as]))] (fun mQ v h => ∃ (k9 : Nat) (x4 : Int), (k9 + mQ = n.n.toNat ∧ forN (cut_spread_B1 n f turned) mQ k9 x4 = some x8) ∧ v = [(18, .v (.int .i64 ((k9 : Nat) : Int))), (9, .v (.int .u16 x4))] ∧ h = []) n.n.toNat ⟨_, _, ⟨by omega, hl39⟩, rfl, rfl⟩ (Qg rfl (Qg rfl (Qg rfl (Qg rfl (Qg rfl (Qg rfl (Qy))))))) (Qn _ _ _ _ _ Qk (Jj ⟨⟨⟨⟨Qs, Qb _⟩, Qb _⟩, Qb _⟩, Qb _⟩) (Jb _)) ?_
 rintro m10 v h ⟨k9, x4, ⟨hkk9, hF6⟩, rfl, rfl⟩
 refine Qj (Qc ?_)
 refine Qa (ps_lss rfl rfl rfl) ?_
 refine Qo (Qe (Qj ?_))
 refine Jc rfl (fun (hk9 : (k9 : Int) < n.n) => ?_) (fun (hk9 : ¬ (k9 : Int) < n.n) => ?_)
 obtain ⟨m10', rfl⟩ : ∃ x, m10 = x + 1 := ⟨m10 - 1, by omega⟩
 have hb := Jd hF6; clear hF6
 obtain ⟨qrm10, H, hF6⟩ := hb
 have hnk9 : k9 < n.n.toNat := by omega
 have hIk9 : InI ((k9 : Int) + 1) := inI_cnt hk9 c3
 refine Jg (Qe (Qj (GoC.block (Qj (Qc ?_)))))
 refine Qa (Qu rfl rfl) ?_
 refine Qa (Jf rfl Qw Qw Qh rfl rfl) ?_
 refine Qa (ps_len rfl (by constructor) rfl) ?_
 refine GoO.lenLe (n := n.as.length) (x := .tmp 21) rfl (by constructor) sl_lenLe (fun ml11 => ?_)
 refine Qa (Ql rfl rfl) ?_
 refine Qo (Qe ?_)
 have hb := Jd H; clear H
 obtain ⟨x16, hl38, HK13⟩ := hb
 refine GoC.blockJ [(1, slD f), (3, .v (.bool turned)), (4, .ptr β1 4 0 0), (17, .v (.int .i64 n.n)), (18, .v (.int .i64 ((k9 : Nat) : Int)))] [.one β1 42 4 (st1 (nth [.v (.int .i64 n.n), .v (.int .i64 n.s), .v (.int .i64 n.t), slD n.as]))] (fun v h => v = [(9, .v (.int .u16 x16))] ∧ h = []) ?_ ?_
 refine GoC.loopJ [(1, _), (3, _), (4, _), (17, _), (18, _), (21, _), (22, _)] [.one β1 42 4 (st1 (nth [.v (.int .i64 n.n), .v (.int .i64 n.s), .v (.int .i64 n.t), slD n.as]))] (fun mQ v h => ∃ (k17 : Nat) (x12 : Int), (k17 + mQ = n.as.length ∧ forN (cut_spread_B2 n f turned) mQ k17 x12 = some x16) ∧ v = [(23, .v (.int .i64 ((k17 : Nat) : Int))), (9, .v (.int .u16 x12))] ∧ h = []) n.as.length ⟨_, _, ⟨by omega, hl38⟩, rfl, rfl⟩ (Qg rfl (Qg rfl (Qg rfl (Qg rfl (Qg rfl (Qg rfl (Qg rfl (Qg rfl (Qg rfl (Qy)))))))))) (Qn _ _ _ _ _ Qk (Jj ⟨⟨⟨⟨Qs, Qb _⟩, Qb _⟩, Qb _⟩, Qb _⟩) (Jb _)) ?_
 rintro m18 v h ⟨k17, x12, ⟨hkk17, hF14⟩, rfl, rfl⟩
 refine Qj (Qc ?_)
 refine Qa (ps_lss rfl rfl rfl) ?_
 refine Qo (Qe (Qj ?_))
 refine Jc rfl (fun (hk17 : (k17 : Int) < ((n.as.length : Nat) : Int)) => ?_) (fun (hk17 : ¬ (k17 : Int) < ((n.as.length : Nat) : Int)) => ?_)
 obtain ⟨m18', rfl⟩ : ∃ x, m18 = x + 1 := ⟨m18 - 1, by omega⟩
 have hb := Jd hF14; clear hF14
 obtain ⟨qrm18, H, hF14⟩ := hb
 have hnk17 : k17 < n.as.length := by omega
 have hIk17 : InI ((k17 : Int) + 1) := inI_len hk17 ml11
 refine Jg (Qe (Qj (GoC.block (Qj (Qc ?_)))))
 refine Qa (Ql rfl rfl) ?_
 refine Qa (ps_indexAddrRN rfl rfl hnk17 rfl) ?_
 refine Qa (ps_loadAgR rfl hnk17 rfl rfl) ?_
 refine Jq (ef_alloc rfl) (fun β19 => ?_)
 refine Qa (Qi rfl rfl) ?_
 refine GoO.eff1 (ef_storeAg rfl rfl Qw upd_whole Qh rfl) ?_
 refine Qo (Qe (Qj ?_))
 refine GoC.drawA (.q 0 (.q 1 (.q 2 (.q 3 (.q 4 (.q 5 (.done))))))) follows (by kernel_rfl) ?_
 refine Qx rfl (Qu rfl rfl) ?_
 refine Qx rfl (Jf rfl Qw Qw Qh rfl rfl) ?_
 refine Qx rfl (Qu rfl rfl) ?_
 refine Qx rfl (Jf rfl Qw Qw Qh rfl rfl) ?_
 refine Qx rfl (Qi rfl rfl) ?_
 refine Qx rfl (Qi rfl rfl) ?_
 refine GoP.done ?_
 refine Qe ?_
 have hb := Jd H; clear H
 obtain ⟨⟨x20, x21⟩, H, HK22⟩ := hb
 refine GoC.seqJ [(1, slD f), (3, .v (.bool turned)), (4, .ptr β1 4 0 0), (9, .v (.int .u16 x12)), (10, .v (.int .i64 ((k17 : Nat) : Int))), (11, .ptr β19 3 0 0), (17, .v (.int .i64 n.n)), (18, .v (.int .i64 ((k9 : Nat) : Int))), (21, slD n.as), (22, .v (.int .i64 ((n.as.length : Nat) : Int))), (23, .v (.int .i64 ((k17 : Nat) : Int)))] [.one β19 83 3 (st1 (nth [.v (.int .i64 ((n.as.getD k17 El.d).f)), .v (.int .i64 ((n.as.getD k17 El.d).t)), .v (.int .i64 ((n.as.getD k17 El.d).c))])), .one β1 42 4 (st1 (nth [.v (.int .i64 n.n), .v (.int .i64 n.s), .v (.int .i64 n.t), slD n.as]))] (fun v h => v = [(12, .v (.int .i64 x20)), (13, .v (.int .i64 x21))] ∧ h = []) ?_ ?_
 refine Qj (Qc ?_)
 refine Qa (Ql rfl rfl) ?_
 refine Qo (Qe ?_)
 refine GoC.cond rfl (fun h24 => ?_) (fun h24 => ?_)
 replace H := itb_t h24 H
 refine Qc ?_
 refine Qa (Ql rfl rfl) ?_
 refine Qa (Ql rfl rfl) ?_
 refine Qa (Qi rfl rfl) ?_
 refine Qa (Qi rfl rfl) ?_
 refine Qo ?_
 cases H
 exact Jr ⟨rfl, rfl⟩ (Qg rfl (Qg rfl (Qg rfl (Qg rfl (Qg rfl (Qg rfl (Qg rfl (Qg rfl (Qg rfl (Qg rfl (Qg rfl (Qg rfl (Qg rfl (Qy)))))))))))))) (Qn _ _ _ _ _ Qk (Jj ⟨⟨⟨Qs, Qb _⟩, Qb _⟩, Qb _⟩) (Qn _ _ _ _ _ Qk (Jj ⟨⟨⟨⟨Qs, Qb _⟩, Qb _⟩, Qb _⟩, Qb _⟩) (Jb _)))
 replace H := itb_f h24 H
 refine Jg ?_
 cases H
 exact Jr ⟨rfl, rfl⟩ (Qg rfl (Qg rfl (Qg rfl (Qg rfl (Qg rfl (Qg rfl (Qg rfl (Qg rfl (Qg rfl (Qg rfl (Qg rfl (Qg rfl (Qg rfl (Qy)))))))))))))) (Qn _ _ _ _ _ Qk (Jj ⟨⟨⟨Qs, Qb _⟩, Qb _⟩, Qb _⟩) (Qn _ _ _ _ _ Qk (Jj ⟨⟨⟨⟨Qs, Qb _⟩, Qb _⟩, Qb _⟩, Qb _⟩) (Jb _)))
 rintro v h ⟨rfl, rfl⟩
 have H := HK22; clear HK22
 have hb := Jd H; clear H
 obtain ⟨x25, H, HK26⟩ := hb
 refine GoC.seqJ [(1, slD f), (3, .v (.bool turned)), (4, .ptr β1 4 0 0), (10, .v (.int .i64 ((k17 : Nat) : Int))), (12, .v (.int .i64 x20)), (13, .v (.int .i64 x21)), (17, .v (.int .i64 n.n)), (18, .v (.int .i64 ((k9 : Nat) : Int))), (21, slD n.as), (22, .v (.int .i64 ((n.as.length : Nat) : Int))), (23, .v (.int .i64 ((k17 : Nat) : Int)))] [.one β19 83 3 (st1 (nth [.v (.int .i64 ((n.as.getD k17 El.d).f)), .v (.int .i64 ((n.as.getD k17 El.d).t)), .v (.int .i64 ((n.as.getD k17 El.d).c))])), .one β1 42 4 (st1 (nth [.v (.int .i64 n.n), .v (.int .i64 n.s), .v (.int .i64 n.t), slD n.as]))] (fun v h => v = [(9, .v (.int .u16 x25))] ∧ h = []) ?_ ?_
 refine Qj ?_
 refine GoC.drawA (.q 0 (.q 1 (.q 2 (.q 3 (.q 4 (.q 5 (.q 6 (.q 7 (.q 8 (.q 9 (.q 10 (.q 11 (.q 12 (.q 13 (.done))))))))))))))) follows (by kernel_rfl) ?_
 refine Qx rfl (Ql rfl rfl) ?_
 refine Qx rfl (Ql rfl rfl) ?_
 have c28 := ck_l H; replace H := ck_r H
 refine Qx rfl (ps_indexAddrRN rfl rfl c28 rfl) ?_
 refine Qx rfl (ps_loadR rfl c28 rfl rfl) ?_
 refine Qx rfl (Qu rfl rfl) ?_
 refine Qx rfl (Jf rfl Qw Qw Qh rfl rfl) ?_
 refine Qx rfl (ps_lss rfl rfl rfl) ?_
 refine Qx rfl (Ql rfl rfl) ?_
 refine GoP.decideD 42 rfl (fun h29 => ?_) (fun h29 => ?_)
 replace H := Jt h29 H
 refine GoP.qT rfl rfl rfl rfl (Ql rfl rfl) ?_
 refine GoP.qT rfl rfl rfl rfl (Ql rfl rfl) ?_
 have c30 := ck_l H; replace H := ck_r H
 refine GoP.qT rfl rfl rfl rfl (ps_shr rfl rfl rfl c30) ?_
 refine GoP.qT rfl rfl rfl rfl (ps_and rfl rfl rfl) ?_
 refine GoP.qT rfl rfl rfl rfl (ps_eql rfl rfl rfl) ?_
 refine Qx rfl (ps_pickT rfl rfl rfl) ?_
 refine GoP.done ?_
 refine Qe ?_
 refine Jc rfl (fun h31 => ?_) (fun h31 => ?_)
 replace H := Jt h31 H
 refine Qc ?_
 refine Qa (Ql rfl rfl) ?_
 refine Qa (Ql rfl rfl) ?_
 have c32 := ck_l H; replace H := ck_r H
 refine Qa (ps_shl rfl rfl rfl c32) ?_
 refine Qa (ps_or rfl rfl rfl) ?_
 refine Qa (Qi rfl rfl) ?_
 refine Qo ?_
 cases H
 exact Jr ⟨rfl, rfl⟩ (Qg rfl (Qg rfl (Qg rfl (Qg rfl (Qg rfl (Qg rfl (Qg rfl (Qg rfl (Qg rfl (Qg rfl (Qg rfl (Qg rfl (Qy))))))))))))) (Qn _ _ _ _ _ Qk (Jj ⟨⟨⟨Qs, Qb _⟩, Qb _⟩, Qb _⟩) (Qn _ _ _ _ _ Qk (Jj ⟨⟨⟨⟨Qs, Qb _⟩, Qb _⟩, Qb _⟩, Qb _⟩) (Jb _)))
 replace H := Ju h31 H
 refine Jg ?_
 cases H
 exact Jr ⟨rfl, rfl⟩ (Qg rfl (Qg rfl (Qg rfl (Qg rfl (Qg rfl (Qg rfl (Qg rfl (Qg rfl (Qg rfl (Qg rfl (Qg rfl (Qg rfl (Qy))))))))))))) (Qn _ _ _ _ _ Qk (Jj ⟨⟨⟨Qs, Qb _⟩, Qb _⟩, Qb _⟩) (Qn _ _ _ _ _ Qk (Jj ⟨⟨⟨⟨Qs, Qb _⟩, Qb _⟩, Qb _⟩, Qb _⟩) (Jb _)))
 replace H := Ju h29 H
 refine GoP.qF rfl rfl rfl rfl rfl ?_
 refine GoP.qF rfl rfl rfl rfl rfl ?_
 refine GoP.qF rfl rfl rfl rfl rfl ?_
 refine GoP.qF rfl rfl rfl rfl rfl ?_
 refine GoP.qF rfl rfl rfl rfl rfl ?_
 refine Qx rfl (ps_pickF rfl rfl rfl) ?_
 refine GoP.done ?_
 refine Qe ?_
 refine GoC.condF rfl ?_
 refine Jg ?_
 cases H
 exact Jr ⟨rfl, rfl⟩ (Qg rfl (Qg rfl (Qg rfl (Qg rfl (Qg rfl (Qg rfl (Qg rfl (Qg rfl (Qg rfl (Qg rfl (Qg rfl (Qg rfl (Qy))))))))))))) (Qn _ _ _ _ _ Qk (Jj ⟨⟨⟨Qs, Qb _⟩, Qb _⟩, Qb _⟩) (Qn _ _ _ _ _ Qk (Jj ⟨⟨⟨⟨Qs, Qb _⟩, Qb _⟩, Qb _⟩, Qb _⟩) (Jb _)))
 rintro v h ⟨rfl, rfl⟩
 have H := HK26; clear HK26
 refine Qj (Qc ?_)
 refine Qa (Ql rfl rfl) ?_
 refine Qa (Ql rfl rfl) ?_
 have c33 := ck_l H; replace H := ck_r H
 refine Qa (ps_indexAddrRN rfl rfl c33 rfl) ?_
 refine Qa (ps_loadR rfl c33 rfl rfl) ?_
 refine Qa (ps_gtr rfl rfl rfl) ?_
 refine Qa (Ql rfl rfl) ?_
 refine GoO.guardD rfl rfl rfl rfl (fun h34 => ?_) (fun h34 => ?_)
 replace H := Jt h34 H
 refine Qa (Ql rfl rfl) ?_
 refine Jl rfl rfl rfl ?_
 refine Qa (Ql rfl rfl) ?_
 refine Jl rfl rfl rfl ?_
 have c35 := ck_l H; replace H := ck_r H
 refine Qa (ps_shr rfl rfl rfl c35) ?_
 refine Jl rfl rfl rfl ?_
 refine Qa (ps_and rfl rfl rfl) ?_
 refine Jl rfl rfl rfl ?_
 refine Qa (ps_eql rfl rfl rfl) ?_
 refine Qa (ps_pickT rfl rfl rfl) ?_
 refine Qo (Qe ?_)
 refine Jc rfl (fun h36 => ?_) (fun h36 => ?_)
 replace H := Jt h36 H
 refine Qc ?_
 refine Qa (Ql rfl rfl) ?_
 refine Qa (Ql rfl rfl) ?_
 have c37 := ck_l H; replace H := ck_r H
 refine Qa (ps_shl rfl rfl rfl c37) ?_
 refine Qa (ps_or rfl rfl rfl) ?_
 refine Qa (Qi rfl rfl) ?_
 refine Qo (GoK.blk (Qe (Qc ?_)))
 refine Qa (ps_add rfl rfl rfl hIk17) ?_
 refine Qa (Ql rfl rfl) ?_
 refine Qo ?_
 obtain rfl := Qf H
 exact GoK.againJ m18' (by omega) ⟨_, _, ⟨by omega, hF14⟩, rfl, rfl⟩ (Qg rfl (Qg rfl (Qg rfl (Qg rfl (Qg rfl (Qg rfl (Qg rfl (Qg rfl (Qg rfl (Qy)))))))))) (Qn _ _ _ _ _ Jk (Jj ⟨⟨⟨⟨Qs, Qb _⟩, Qb _⟩, Qb _⟩, Qb _⟩) (Jb _))
 replace H := Ju h36 H
 refine Jg (GoK.blk (Qe (Qc ?_)))
 refine Qa (ps_add rfl rfl rfl hIk17) ?_
 refine Qa (Ql rfl rfl) ?_
 refine Qo ?_
 obtain rfl := Qf H
 exact GoK.againJ m18' (by omega) ⟨_, _, ⟨by omega, hF14⟩, rfl, rfl⟩ (Qg rfl (Qg rfl (Qg rfl (Qg rfl (Qg rfl (Qg rfl (Qg rfl (Qg rfl (Qg rfl (Qy)))))))))) (Qn _ _ _ _ _ Jk (Jj ⟨⟨⟨⟨Qs, Qb _⟩, Qb _⟩, Qb _⟩, Qb _⟩) (Jb _))
 replace H := Ju h34 H
 refine Ja rfl rfl rfl rfl ?_
 refine Ja rfl rfl rfl rfl ?_
 refine Ja rfl rfl rfl rfl ?_
 refine Ja rfl rfl rfl rfl ?_
 refine Qa (ps_pickF rfl rfl rfl) ?_
 refine Qo (Qe ?_)
 refine GoC.condF rfl ?_
 refine Jg (GoK.blk (Qe (Qc ?_)))
 refine Qa (ps_add rfl rfl rfl hIk17) ?_
 refine Qa (Ql rfl rfl) ?_
 refine Qo ?_
 obtain rfl := Qf H
 exact GoK.againJ m18' (by omega) ⟨_, _, ⟨by omega, hF14⟩, rfl, rfl⟩ (Qg rfl (Qg rfl (Qg rfl (Qg rfl (Qg rfl (Qg rfl (Qg rfl (Qg rfl (Qg rfl (Qy)))))))))) (Qn _ _ _ _ _ Jk (Jj ⟨⟨⟨⟨Qs, Qb _⟩, Qb _⟩, Qb _⟩, Qb _⟩) (Jb _))
 obtain rfl : m18 = 0 := by omega
 refine GoC.exit rfl ?_
 cases hF14
 exact Jr ⟨rfl, rfl⟩ (Qg rfl (Qg rfl (Qg rfl (Qg rfl (Qg rfl (Qg rfl (Qy))))))) (Qn _ _ _ _ _ Qk (Jj ⟨⟨⟨⟨Qs, Qb _⟩, Qb _⟩, Qb _⟩, Qb _⟩) (Jb _))
 rintro v h ⟨rfl, rfl⟩
 have H := HK13; clear HK13
 refine GoK.blk (Qe (Qc ?_))
 refine Qa (ps_add rfl rfl rfl hIk9) ?_
 refine Qa (Ql rfl rfl) ?_
 refine Qo ?_
 obtain rfl := Qf H
 exact GoK.againJ m10' (by omega) ⟨_, _, ⟨by omega, hF6⟩, rfl, rfl⟩ (Qg rfl (Qg rfl (Qg rfl (Qg rfl (Qg rfl (Qg rfl (Qy))))))) (Qn _ _ _ _ _ Qk (Jj ⟨⟨⟨⟨Qs, Qb _⟩, Qb _⟩, Qb _⟩, Qb _⟩) (Jb _))
 obtain rfl : m10 = 0 := by omega
 refine GoC.exit rfl ?_
 cases hF6
 exact Jr ⟨rfl, rfl⟩ (Qg rfl (Qy)) (Qn _ _ _ _ _ Qk (Jj ⟨⟨⟨⟨Qs, Qb _⟩, Qb _⟩, Qb _⟩, Qb _⟩) (Jb _))
 rintro v h ⟨rfl, rfl⟩
 have H := HK5; clear HK5
 refine Qe (Qj (Qc ?_))
 refine Qa (Ql rfl rfl) ?_
 refine Qa (Qi rfl rfl) ?_
 refine Qo (Qe ?_)
 obtain rfl := Qf H
 exact Jh (ds := [.v (.int .u16 x8)]) Tryd.results87 (Qt (Qv rfl) (Je)) (Qm _) ⟨rfl, rfl⟩
def cut_Least_F (n : Net) : Option (Int × Int × Int) :=
 (most_Of_F n).bind fun (r2, r4, r5) =>
 if r5 ≠ 0 then
  some (0, 0, r5)
 else
  (cut_spread_F n r2 n.s false).bind fun r8 =>
  some (r8, r4, 0)
def cut_Least_P (out : Int × Int × Int) (d : D) (H : List HL) : Prop := d = .tp 3 (nth [.v (.int .u16 out.1), .v (.int .i64 out.2.1), .v (.int .i64 out.2.2)]) ∧ H = []
theorem cut_Least_I (out : Int × Int × Int) : IndepP (cut_Least_P out) := IndepP.of (by rintro _ _ ⟨rfl, rfl⟩; exact ⟨inferInstance, inferInstance⟩)
set_option maxRecDepth 100000 in
set_option maxHeartbeats 4000000 in
theorem cut_Least_spec (n : Net) {out : Int × Int × Int} (H : cut_Least_F n = some out) : Does Tryd.prog 64 [.ag 4 (nth [.v (.int .i64 n.n), .v (.int .i64 n.s), .v (.int .i64 n.t), slD n.as])] [] (cut_Least_P out) := by
 unfold cut_Least_F at H
 refine Does.intro Tryd.func64 rfl Tryd.ntmps64 rfl fun w0 I0 tb0 => ?_
 refine Qj (Qc ?_)
 refine Jq (ef_boxAg rfl rfl) (fun β1 => ?_)
 refine Qa (Qi rfl rfl) ?_
 refine Qa (Qi rfl rfl) ?_
 refine Qa (Qi rfl rfl) ?_
 refine Qo (Qe (Qj (Qc ?_)))
 refine Qa (ps_loadAg rfl Qw Qw Qh rfl rfl) ?_
 have hb := Jd H; clear H
 obtain ⟨⟨r2, r4, r5⟩, e6, H⟩ := hb
 refine GoO.effC (ef_call rfl (Qm _) (Qm _) (most_Of_spec n e6) (Qq (Lend.agA ⟨⟨⟨⟨Qs, Qp _ _⟩, Qp _ _⟩, Qp _ _⟩, Qp _ _⟩) (Qz)) rfl (most_Of_I (r2, r4, r5))) (fun rr HH hp => ?_)
 obtain ⟨β3, rfl, rfl⟩ := hp
 refine Qa (Ql rfl rfl) ?_
 refine Qa (Ji rfl rfl rfl) ?_
 refine Qa (Ji rfl rfl rfl) ?_
 refine Qa (Ji rfl rfl rfl) ?_
 refine Qa (Qi rfl rfl) ?_
 refine Qa (Qi rfl rfl) ?_
 refine Qa (Qi rfl rfl) ?_
 refine Qo (Qe (Qj (Qj (Qc ?_))))
 refine Qa (Ql rfl rfl) ?_
 refine Qa (ps_neq rfl rfl rfl) ?_
 refine Qo (Qe ?_)
 refine Jc rfl (fun h7 => ?_) (fun h7 => ?_)
 replace H := Jt h7 H
 refine Qj (Qc ?_)
 refine Qa (Ql rfl rfl) ?_
 refine Qa (Qi rfl rfl) ?_
 refine Qa (Qi rfl rfl) ?_
 refine Qa (Qi rfl rfl) ?_
 refine Qo (Qe ?_)
 obtain rfl := Qf H
 exact Jh (ds := [.v (.int .u16 0), .v (.int .i64 0), .v (.int .i64 r5)]) Tryd.results64 (Qt (Qv rfl) (Qt (Qv rfl) (Qt (Qv rfl) (Je)))) (Qm _) ⟨rfl, rfl⟩
 replace H := Ju h7 H
 refine Jg (Qe (Qj (Qc ?_)))
 refine Qa (ps_loadAg rfl Js Js Qh rfl rfl) ?_
 refine Qa (Ql rfl rfl) ?_
 refine Qa (Qu rfl rfl) ?_
 refine Qa (Jf rfl Js Js Qh rfl rfl) ?_
 have hb := Jd H; clear H
 obtain ⟨r8, e9, H⟩ := hb
 refine GoO.effC (ef_call rfl (Qm _) (Qd _ _ _ _ _ Qk (Qm _)) (cut_spread_spec n r2 n.s false e9) (Qq (Lend.agA ⟨⟨⟨⟨Qs, Qp _ _⟩, Qp _ _⟩, Qp _ _⟩, Qp _ _⟩) (Qq (Lend.all' Qw (by first | rfl | omega | (simp only [szl] <;> first | rfl | omega)) rfl) (Qq (Qp _ _) (Qq (Qp _ _) (Qz))))) rfl (cut_spread_I (r8))) (fun rr HH hp => ?_)
 obtain ⟨rfl, rfl⟩ := hp
 refine Qa (Ql rfl rfl) ?_
 refine Qa (Qi rfl rfl) ?_
 refine Qa (Qi rfl rfl) ?_
 refine Qa (Qi rfl rfl) ?_
 refine Qo (Qe ?_)
 obtain rfl := Qf H
 exact Jh (ds := [.v (.int .u16 r8), .v (.int .i64 r4), .v (.int .i64 0)]) Tryd.results64 (Qt (Qv rfl) (Qt (Qv rfl) (Qt (Qv rfl) (Je)))) (Qm _) ⟨rfl, rfl⟩
end Go.Proofs.YthchdnemndolbaaDoor
