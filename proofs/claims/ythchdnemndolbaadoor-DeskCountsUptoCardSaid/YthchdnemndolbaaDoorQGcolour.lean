import Derived.Test.YthchdnemndolbaaDoorQTys
import Derived.Test.YthchdnemndolbaaDoorQDat
import Derived.Test.YthchdnemndolbaaDoorQGgraph
namespace Go.Proofs.YthchdnemndolbaaDoor
open Go Go.Proofs.YthchdnemndolbaaDoor.Sx
set_option linter.unusedVariables false
set_option linter.unusedSimpArgs false
def colour_count_c1_F (p0 : Int) (c_0 : Int) (c_1 : Int) (c_2 : Int) : Option (Int) :=
 if p0 = c_0 then
  some c_1
 else
  ck (InI (c_2 - 1)) <|
  if p0 = (c_2 - 1) then
   some c_0
  else
   some p0
def colour_count_c1_P (out : Int) (d : D) (H : List HL) : Prop := d = .v (.int .i64 out) ∧ H = []
theorem colour_count_c1_I (out : Int) : IndepP (colour_count_c1_P out) := IndepP.of (by rintro _ _ ⟨rfl, rfl⟩; exact ⟨inferInstance, inferInstance⟩)
set_option maxRecDepth 100000 in
set_option maxHeartbeats 4000000 in
theorem colour_count_c1_spec (p0 : Int) (c_0 : Int) (c_1 : Int) (c_2 : Int) {out : Int} (H : colour_count_c1_F p0 c_0 c_1 c_2 = some out) : Does Tryd.prog 66 [.v (.int .i64 p0), .rp 1 1 (row [c_0]).get 0 0, .rp 1 1 (row [c_1]).get 0 0, .rp 1 1 (row [c_2]).get 0 0] [] (colour_count_c1_P out) := by
 unfold colour_count_c1_F at H
 refine Does.intro Tryd.func66 rfl Tryd.ntmps66 rfl fun w0 I0 tb0 => ?_
 refine Qj (Qc ?_)
 refine Qa (Qi rfl rfl) ?_
 refine Qo (Qe (Qj (Qj (Qc ?_))))
 refine Qa (Ql rfl rfl) ?_
 refine Qa (ps_loadR rfl Qh rfl rfl) ?_
 refine Qa (ps_eql rfl rfl rfl) ?_
 refine Qo (Qe ?_)
 refine Jc rfl (fun h1 => ?_) (fun h1 => ?_)
 replace H := Jt h1 H
 refine Qj (Qc ?_)
 refine Qa (ps_loadR rfl Qh rfl rfl) ?_
 refine Qa (Qi rfl rfl) ?_
 refine Qo (Qe ?_)
 obtain rfl := Qf H
 exact Jh (ds := [.v (.int .i64 c_1)]) Tryd.results66 (Qt (Qv rfl) (Je)) (Qm _) ⟨rfl, rfl⟩
 replace H := Ju h1 H
 refine Jg (Qe (Qj (Qj (Qc ?_))))
 refine Qa (Ql rfl rfl) ?_
 refine Qa (ps_loadR rfl Qh rfl rfl) ?_
 have c2 := ck_l H; replace H := ck_r H
 refine Qa (ps_sub rfl rfl rfl c2) ?_
 refine Qa (ps_eql rfl rfl rfl) ?_
 refine Qo (Qe ?_)
 refine Jc rfl (fun h3 => ?_) (fun h3 => ?_)
 replace H := Jt h3 H
 refine Qj (Qc ?_)
 refine Qa (ps_loadR rfl Qh rfl rfl) ?_
 refine Qa (Qi rfl rfl) ?_
 refine Qo (Qe ?_)
 obtain rfl := Qf H
 exact Jh (ds := [.v (.int .i64 c_0)]) Tryd.results66 (Qt (Qv rfl) (Je)) (Qm _) ⟨rfl, rfl⟩
 replace H := Ju h3 H
 refine Jg (Qe (Qj (Qc ?_)))
 refine Qa (Ql rfl rfl) ?_
 refine Qa (Qi rfl rfl) ?_
 refine Qo (Qe ?_)
 obtain rfl := Qf H
 exact Jh (ds := [.v (.int .i64 p0)]) Tryd.results66 (Qt (Qv rfl) (Je)) (Qm _) ⟨rfl, rfl⟩
def colour_count_B1 (many : Int) : Nat → Int → Option (Int) := fun k10 x5 =>
 ck (InI (x5 * many)) <|
 some (x5 * many)
def colour_count_B2 (n : Int) (l : (List Arc)) : Nat → (List Arc) → Option ((List Arc)) := fun k31 l26 =>
 (colour_count_c1_F (((subl l 1 (l.length - 1)).getD k31 El.d).f) (max ((l.getD 0 El.d).f) ((l.getD 0 El.d).t)) (min ((l.getD 0 El.d).f) ((l.getD 0 El.d).t)) n).bind fun r34 =>
 (colour_count_c1_F (((subl l 1 (l.length - 1)).getD k31 El.d).t) (max ((l.getD 0 El.d).f) ((l.getD 0 El.d).t)) (min ((l.getD 0 El.d).f) ((l.getD 0 El.d).t)) n).bind fun r36 =>
 ck (l26.length + 1 ≤ 5864062014805) <|
 some (l26 ++ ([(⟨r34, r36, 0⟩ : Arc)] : List Arc))
def colour_count_S (rec : Int → (List Arc) → Int → Option (Int)) (n : Int) (l : (List Arc)) (many : Int) : Option (Int) :=
 if ((l.length : Nat) : Int) = 0 then
  ck (InI n) <|
  (forN (colour_count_B1 many) n.toNat 0 1).bind fun x9 =>
  some x9
 else
  ck (0 < l.length) <|
  ck (1 ≤ l.length) <|
  if ((l.getD 0 El.d).f) = ((l.getD 0 El.d).t) then
   some 0
  else
   (forN (colour_count_B2 n l) ((subl l 1 (l.length - 1)).length) 0 []).bind fun l30 =>
   ck (InI (n - 1)) <|
   (rec n (subl l 1 (l.length - 1)) many).bind fun r43 =>
   (rec (n - 1) l30 many).bind fun r45 =>
   ck (InI (r43 - r45)) <|
   some (r43 - r45)
def colour_count_F : Nat → Int → (List Arc) → Int → Option (Int)
 | 0 => fun _ _ _ => none
 | fuel + 1 => colour_count_S (colour_count_F fuel)
def colour_count_P (out : Int) (d : D) (H : List HL) : Prop := d = .v (.int .i64 out) ∧ H = []
theorem colour_count_I (out : Int) : IndepP (colour_count_P out) := IndepP.of (by rintro _ _ ⟨rfl, rfl⟩; exact ⟨inferInstance, inferInstance⟩)
set_option maxRecDepth 100000 in
set_option maxHeartbeats 4000000 in
theorem colour_count_spec : ∀ (fuel : Nat) (n : Int) (l : (List Arc)) (many : Int) {out : Int} (H : colour_count_F fuel n l many = some out), Does Tryd.prog 43 [.v (.int .i64 n), slD l, .v (.int .i64 many)] [] (colour_count_P out) := by
 intro fuel
 induction fuel with
 | zero => intro n l many out H; cases H
 | succ fuel ih =>
 intro n l many out H
 replace H : colour_count_S (colour_count_F fuel) n l many = some out := H
 generalize colour_count_F fuel = rec at ih H
 unfold colour_count_S at H
 refine Does.intro Tryd.func43 rfl Tryd.ntmps43 rfl fun w0 I0 tb0 => ?_
 refine Qj (Qc ?_)
 refine Jq (ef_box rfl rfl rfl) (fun β1 => ?_)
 refine Qa (Qi rfl rfl) ?_
 refine Qo (Qe (Qj (Qj (Qc ?_))))
 refine Qa (Ql rfl rfl) ?_
 refine Qa (ps_len rfl (by constructor) rfl) ?_
 refine GoO.lenLe (n := l.length) (x := .tmp 16) rfl (by constructor) sl_lenLe (fun ml2 => ?_)
 refine Qa (ps_eql rfl rfl rfl) ?_
 refine Qo (Qe ?_)
 refine Jc rfl (fun h3 => ?_) (fun h3 => ?_)
 replace H := Jt h3 H
 refine Qj (Qc ?_)
 refine Qa (Qi rfl rfl) ?_
 refine Qo (Qe (Qj (Qj (Qc ?_))))
 refine Qa (Jf rfl Qw Qw Qh rfl rfl) ?_
 refine Qa (Ql rfl rfl) ?_
 refine Qo (Qe ?_)
 have c4 := ck_l H; replace H := ck_r H
 have hb := Jd H; clear H
 obtain ⟨x9, hl13, HK6⟩ := hb
 refine GoC.blockJ [] [.one β1 3 1 (st1 (nth [.v (.int .i64 n)]))] (fun v h => v = [(7, .v (.int .i64 x9))] ∧ h = []) ?_ ?_
 refine GoC.loopJ [(2, _), (19, _)] [.one β1 3 1 (st1 (nth [.v (.int .i64 n)]))] (fun mQ v h => ∃ (k10 : Nat) (x5 : Int), (k10 + mQ = n.toNat ∧ forN (colour_count_B1 many) mQ k10 x5 = some x9) ∧ v = [(20, .v (.int .i64 ((k10 : Nat) : Int))), (7, .v (.int .i64 x5))] ∧ h = []) n.toNat ⟨_, _, ⟨by omega, hl13⟩, rfl, rfl⟩ (Qg rfl (Qg rfl (Qg rfl (Qg rfl (Qy))))) (Qn _ _ _ _ _ Qk (Jj ⟨Qs, Qb _⟩) (Jb _)) ?_
 rintro m11 v h ⟨k10, x5, ⟨hkk10, hF7⟩, rfl, rfl⟩
 refine Qj (Qc ?_)
 refine Qa (ps_lss rfl rfl rfl) ?_
 refine Qo (Qe (Qj ?_))
 refine Jc rfl (fun (hk10 : (k10 : Int) < n) => ?_) (fun (hk10 : ¬ (k10 : Int) < n) => ?_)
 obtain ⟨m11', rfl⟩ : ∃ x, m11 = x + 1 := ⟨m11 - 1, by omega⟩
 have hb := Jd hF7; clear hF7
 obtain ⟨qrm11, H, hF7⟩ := hb
 have hnk10 : k10 < n.toNat := by omega
 have hIk10 : InI ((k10 : Int) + 1) := inI_cnt hk10 c4
 refine Jg (Qe (Qj (GoC.block (Qc ?_))))
 refine Qa (Ql rfl rfl) ?_
 refine Qa (Ql rfl rfl) ?_
 have c12 := ck_l H; replace H := ck_r H
 refine Qa (ps_mul rfl rfl rfl c12) ?_
 refine Qa (Qi rfl rfl) ?_
 refine Qo (GoK.blk (Qe (Qc ?_)))
 refine Qa (ps_add rfl rfl rfl hIk10) ?_
 refine Qa (Ql rfl rfl) ?_
 refine Qo ?_
 obtain rfl := Qf H
 exact GoK.againJ m11' (by omega) ⟨_, _, ⟨by omega, hF7⟩, rfl, rfl⟩ (Qg rfl (Qg rfl (Qg rfl (Qg rfl (Qy))))) (Qn _ _ _ _ _ Qk (Jj ⟨Qs, Qb _⟩) (Jb _))
 obtain rfl : m11 = 0 := by omega
 refine GoC.exit rfl ?_
 cases hF7
 exact Jr ⟨rfl, rfl⟩ (Qg rfl (Qy)) (Qn _ _ _ _ _ Qk (Jj ⟨Qs, Qb _⟩) (Jb _))
 rintro v h ⟨rfl, rfl⟩
 have H := HK6; clear HK6
 refine Qe (Qj (Qc ?_))
 refine Qa (Ql rfl rfl) ?_
 refine Qa (Qi rfl rfl) ?_
 refine Qo (Qe ?_)
 obtain rfl := Qf H
 exact Jh (ds := [.v (.int .i64 x9)]) Tryd.results43 (Qt (Qv rfl) (Je)) (Qm _) ⟨rfl, rfl⟩
 replace H := Ju h3 H
 refine Jg (Qe (Qj ?_))
 refine GoC.drawA (.q 0 (.q 1 (.q 2 (.q 3 (.q 4 (.one 5 (.one 6 (.q 7 (.done))))))))) follows (by kernel_rfl) ?_
 refine Qx rfl (Ql rfl rfl) ?_
 have c14 := ck_l H; replace H := ck_r H
 refine Qx rfl (ps_indexAddrRN (i := 0) rfl rfl c14 rfl) ?_
 refine Qx rfl (ps_loadAgR rfl c14 rfl rfl) ?_
 refine Qx rfl (Ql rfl rfl) ?_
 have c15 := ck_l H; replace H := ck_r H
 refine Qx rfl (ps_sliceR rfl (Bd.nat _ _ 1 _ rfl) (Bd.no _) c15 (Nat.le_refl _) rfl) ?_
 refine GoP.leD (Le.re 31 rfl (DLe.part (xs := l) (r := 1) (len := l.length - 1) (by have := c15; first | omega | (simp only [szl]; omega)))) ?_
 refine GoP.oneB rfl Qs (ef_alloc rfl) (Qd _ _ _ _ _ Qk (Qm _)) (fun β16 => ?_)
 refine GoP.one1 rfl Qs (ef_storeAg rfl rfl Qw upd_whole Qh rfl) (Qd _ _ _ _ _ Qk (Qd _ _ _ _ _ Qk (Qm _))) ?_
 refine Qx rfl (Qi rfl rfl) ?_
 refine GoP.done ?_
 refine Qe (Qj (Qj (Qc ?_)))
 refine Qa (Qu rfl rfl) ?_
 refine Qa (Jf rfl Qw Qw Qh rfl rfl) ?_
 refine Qa (Qu rfl rfl) ?_
 refine Qa (Jf rfl Qw Qw Qh rfl rfl) ?_
 refine Qa (ps_eql rfl rfl rfl) ?_
 refine Qo (Qe ?_)
 refine Jc rfl (fun h17 => ?_) (fun h17 => ?_)
 replace H := Jt h17 H
 refine Qj (Qc ?_)
 refine Qa (Qi rfl rfl) ?_
 refine Qo (Qe ?_)
 obtain rfl := Qf H
 exact Jh (ds := [.v (.int .i64 0)]) Tryd.results43 (Qt (Qv rfl) (Je)) (Qm _) ⟨rfl, rfl⟩
 replace H := Ju h17 H
 refine Jg (Qe (Qj ?_))
 refine GoC.drawA (.q 0 (.q 1 (.q 2 (.q 3 (.q 4 (.q 5 (.q 6 (.q 7 (.q 8 (.q 9 (.two 10 11 (.one 11 (.one 12 (.one 13 (.done)))) (.one 10 (.one 12 (.one 13 (.done))))))))))))))) follows (by kernel_rfl) ?_
 refine Qx rfl (Qu rfl rfl) ?_
 refine Qx rfl (Jf rfl Qw Qw Qh rfl rfl) ?_
 refine Qx rfl (Qu rfl rfl) ?_
 refine Qx rfl (Jf rfl Qw Qw Qh rfl rfl) ?_
 refine Qx rfl (ps_min rfl rfl rfl) ?_
 refine Qx rfl (Qu rfl rfl) ?_
 refine Qx rfl (Jf rfl Qw Qw Qh rfl rfl) ?_
 refine Qx rfl (Qu rfl rfl) ?_
 refine Qx rfl (Jf rfl Qw Qw Qh rfl rfl) ?_
 refine Qx rfl (ps_max rfl rfl rfl) ?_
 apply GoP.fork2
 exact rfl
 exact rfl
 exact Qs
 exact Qs
 exact ef_alloc rfl
 exact ef_alloc rfl
 exact (Qd _ _ _ _ _ Qk (Qd _ _ _ _ _ Qk (Qm _)))
 exact (Qd _ _ _ _ _ Qk (Qd _ _ _ _ _ Qk (Qm _)))
 intro hQ
 rintro _ ⟨β20, rfl⟩
 refine GoP.oneB rfl Qs (ef_alloc rfl) (Qd _ _ _ _ _ Jk (Qd _ _ _ _ _ Jk (Qm _))) (fun β22 => ?_)
 refine GoP.one1 rfl Qs (ef_store rfl rfl rfl Js upd_st1 Qh rfl) (Qd _ _ _ _ _ Jk (Qd _ _ _ _ _ Jk (Qd _ _ _ _ _ Jk (Qm _)))) ?_
 refine GoP.one1 rfl Qs (ef_store rfl rfl rfl Qw upd_st1 Qh rfl) (Qd _ _ _ _ _ Qk (Qd _ _ _ _ _ Jk (Qd _ _ _ _ _ Jk (Qm _)))) ?_
 exact GoP.done (hQ β20 β22)
 intro hQ
 rintro _ ⟨β21, rfl⟩
 refine GoP.oneB rfl Qs (ef_alloc rfl) (Qd _ _ _ _ _ Jk (Qd _ _ _ _ _ Jk (Qm _))) (fun β23 => ?_)
 refine GoP.one1 rfl Qs (ef_store rfl rfl rfl Qw upd_st1 Qh rfl) (Qd _ _ _ _ _ Qk (Qd _ _ _ _ _ Jk (Qd _ _ _ _ _ Jk (Qm _)))) ?_
 refine GoP.one1 rfl Qs (ef_store rfl rfl rfl Js upd_st1 Qh rfl) (Qd _ _ _ _ _ Jk (Qd _ _ _ _ _ Jk (Qd _ _ _ _ _ Jk (Qm _)))) ?_
 refine GoP.done (GoK.le ?_ (hQ β23 β21))
 refine Le.ofDW ?_ (Qn _ _ _ _ _ Jk (Qr _) (Qn _ _ _ _ _ Qk (Qr _) (Qn _ _ _ _ _ Qk (Qr _) (Qn _ _ _ _ _ Qk (Qr _) (Jb _)))))
 repeat (first | exact EnvLeW.nil | refine EnvLeW.cons rfl ?_ | refine EnvLeW.skip rfl ?_)
 intro β20 β22
 refine Qe (Qj (Qc ?_))
 refine Qa (Qi rfl rfl) ?_
 refine Qo (Qe (Qj (Qc ?_)))
 refine Qa (ps_makeFunc rfl rfl rfl) ?_
 refine Qa (Qi rfl rfl) ?_
 refine Qo (Qe (Qj (Qj (Qc ?_))))
 refine Qa (Ql rfl rfl) ?_
 refine Qa (ps_len rfl (by constructor) rfl) ?_
 refine GoO.lenLe (n := (subl l 1 (l.length - 1)).length) (x := .tmp 48) rfl (by constructor) sl_lenLe (fun ml24 => ?_)
 refine Qa (Ql rfl rfl) ?_
 refine Qo (Qe ?_)
 have hb := Jd H; clear H
 obtain ⟨l30, hl41, HK27⟩ := hb
 refine GoC.blockJ [(2, .v (.int .i64 many)), (3, .ptr β1 1 0 0), (9, slD (subl l 1 (l.length - 1)))] [.one β22 3 1 (st1 (nth [.v (.int .i64 (max ((l.getD 0 El.d).f) ((l.getD 0 El.d).t)))])), .one β20 3 1 (st1 (nth [.v (.int .i64 (min ((l.getD 0 El.d).f) ((l.getD 0 El.d).t)))])), .one β16 83 3 (st1 (nth [.v (.int .i64 ((l.getD 0 El.d).f)), .v (.int .i64 ((l.getD 0 El.d).t)), .v (.int .i64 ((l.getD 0 El.d).c))])), .one β1 3 1 (st1 (nth [.v (.int .i64 n)]))] (fun v h => ∃ (β25 : BK), v = [(12, .own β25 3 0 l30.length)] ∧ h = [.one β25 83 3 (row l30)]) ?_ ?_
 refine GoC.loopJ [(2, _), (3, _), (9, _), (13, _), (48, _), (49, _)] [.one β22 3 1 (st1 (nth [.v (.int .i64 (max ((l.getD 0 El.d).f) ((l.getD 0 El.d).t)))])), .one β20 3 1 (st1 (nth [.v (.int .i64 (min ((l.getD 0 El.d).f) ((l.getD 0 El.d).t)))])), .one β16 83 3 (st1 (nth [.v (.int .i64 ((l.getD 0 El.d).f)), .v (.int .i64 ((l.getD 0 El.d).t)), .v (.int .i64 ((l.getD 0 El.d).c))])), .one β1 3 1 (st1 (nth [.v (.int .i64 n)]))] (fun mQ v h => ∃ (k31 : Nat) (l26 : (List Arc)) (β25 : BK), (k31 + mQ = (subl l 1 (l.length - 1)).length ∧ forN (colour_count_B2 n l) mQ k31 l26 = some l30) ∧ v = [(50, .v (.int .i64 ((k31 : Nat) : Int))), (12, .own β25 3 0 l26.length)] ∧ h = [.one β25 83 3 (row l26)]) ((subl l 1 (l.length - 1)).length) ⟨_, _, ⟨0, 0, 0⟩, ⟨by omega, hl41⟩, rfl, rfl⟩ (Qg rfl (Jm rfl (DLe.nilOwn) (Qg rfl (Qg rfl (Qg rfl (Qg rfl (Qg rfl (Qg rfl (Qy))))))))) (TkD.no _ _ _ _ _ rfl (Qn _ _ _ _ _ Qk (Jj ⟨Qs, Qb _⟩) (Qn _ _ _ _ _ Qk (Jj ⟨Qs, Qb _⟩) (Qn _ _ _ _ _ Qk (Jj ⟨⟨⟨Qs, Qb _⟩, Qb _⟩, Qb _⟩) (Qn _ _ _ _ _ Qk (Jj ⟨Qs, Qb _⟩) (Jb _)))))) ?_
 rintro m32 v h ⟨k31, l26, β25, ⟨hkk31, hF28⟩, rfl, rfl⟩
 refine Qj (Qc ?_)
 refine Qa (ps_lss rfl rfl rfl) ?_
 refine Qo (Qe (Qj ?_))
 refine Jc rfl (fun (hk31 : (k31 : Int) < (((subl l 1 (l.length - 1)).length : Nat) : Int)) => ?_) (fun (hk31 : ¬ (k31 : Int) < (((subl l 1 (l.length - 1)).length : Nat) : Int)) => ?_)
 obtain ⟨m32', rfl⟩ : ∃ x, m32 = x + 1 := ⟨m32 - 1, by omega⟩
 have hb := Jd hF28; clear hF28
 obtain ⟨qrm32, H, hF28⟩ := hb
 have hnk31 : k31 < (subl l 1 (l.length - 1)).length := by omega
 have hIk31 : InI ((k31 : Int) + 1) := inI_len hk31 ml24
 refine Jg (Qe (Qj (GoC.block (Qj (Qc ?_)))))
 refine Qa (ps_indexAddrRN rfl rfl hnk31 rfl) ?_
 refine Qa (ps_loadAgR rfl hnk31 rfl rfl) ?_
 refine Jq (ef_alloc rfl) (fun β33 => ?_)
 refine GoO.eff1 (ef_storeAg rfl rfl Qw upd_whole Qh rfl) ?_
 refine Qo (Qe ?_)
 refine GoC.drawP (.q 0 (.q 1 (.q 2 (.q 3 (.q 5 (.q 6 (.q 7 (.one 4 (.one 8 (.q 9 (.one 10 (.one 11 (.q 12 (.done)))))))))))))) [(15, _, _, _)] follows (by kernel_rfl) (Qd _ _ _ _ _ Qk (Qm _)) ?_
 refine Qx rfl (Ql rfl rfl) ?_
 refine Qx rfl (Ql rfl rfl) ?_
 refine Qx rfl (Qu rfl rfl) ?_
 refine Qx rfl (Jf rfl Qw Qw Qh rfl rfl) ?_
 refine Qx rfl (Ql rfl rfl) ?_
 refine Qx rfl (Qu rfl rfl) ?_
 refine Qx rfl (Jf rfl Qw Qw Qh rfl rfl) ?_
 have hb := Jd H; clear H
 obtain ⟨r34, e35, H⟩ := hb
 refine GoP.oneC rfl Qs (ef_callv rfl rfl rfl (Qm _) (Qd _ _ _ _ _ Rem.p2 (Qd _ _ _ _ _ Rem.p2 (Qd _ _ _ _ _ Rem.p3 (Qm _)))) (colour_count_c1_spec (((subl l 1 (l.length - 1)).getD k31 El.d).f) (max ((l.getD 0 El.d).f) ((l.getD 0 El.d).t)) (min ((l.getD 0 El.d).f) ((l.getD 0 El.d).t)) n e35) (Qq (Qp _ _) (Qq (Lend.box (ds := [.v (.int .i64 (max ((l.getD 0 El.d).f) ((l.getD 0 El.d).t)))]) Qw rfl (by decide) ⟨Qs, rfl⟩ (Qq (Qp _ _) (Qz)) ⟨Qs, rfl⟩ rfl) (Qq (Lend.box (ds := [.v (.int .i64 (min ((l.getD 0 El.d).f) ((l.getD 0 El.d).t)))]) Js rfl (by decide) ⟨Qs, rfl⟩ (Qq (Qp _ _) (Qz)) ⟨Qs, rfl⟩ rfl) (Qq (Lend.box (ds := [.v (.int .i64 n)]) At.p2 rfl (by decide) ⟨Qs, rfl⟩ (Qq (Qp _ _) (Qz)) ⟨Qs, rfl⟩ rfl) (Qz))))) rfl (colour_count_c1_I (r34))) (Qd _ _ _ _ _ Qk (Qm _)) (fun rr HH hp => ?_)
 obtain ⟨rfl, rfl⟩ := hp
 have hb := Jd H; clear H
 obtain ⟨r36, e37, H⟩ := hb
 refine GoP.oneC rfl Qs (ef_callv rfl rfl rfl (Qm _) (Qd _ _ _ _ _ Rem.p2 (Qd _ _ _ _ _ Rem.p2 (Qd _ _ _ _ _ Rem.p3 (Qm _)))) (colour_count_c1_spec (((subl l 1 (l.length - 1)).getD k31 El.d).t) (max ((l.getD 0 El.d).f) ((l.getD 0 El.d).t)) (min ((l.getD 0 El.d).f) ((l.getD 0 El.d).t)) n e37) (Qq (Qp _ _) (Qq (Lend.box (ds := [.v (.int .i64 (max ((l.getD 0 El.d).f) ((l.getD 0 El.d).t)))]) Qw rfl (by decide) ⟨Qs, rfl⟩ (Qq (Qp _ _) (Qz)) ⟨Qs, rfl⟩ rfl) (Qq (Lend.box (ds := [.v (.int .i64 (min ((l.getD 0 El.d).f) ((l.getD 0 El.d).t)))]) Js rfl (by decide) ⟨Qs, rfl⟩ (Qq (Qp _ _) (Qz)) ⟨Qs, rfl⟩ rfl) (Qq (Lend.box (ds := [.v (.int .i64 n)]) At.p2 rfl (by decide) ⟨Qs, rfl⟩ (Qq (Qp _ _) (Qz)) ⟨Qs, rfl⟩ rfl) (Qz))))) rfl (colour_count_c1_I (r36))) (Qd _ _ _ _ _ Qk (Qm _)) (fun rr HH hp => ?_)
 obtain ⟨rfl, rfl⟩ := hp
 refine Qx rfl (ps_build (Jn _ _ _ _ _ _ _ _ FdP.of (Part.one _ rfl rfl) rfl rfl (Jn _ _ _ _ _ _ _ _ FdP.of (Part.one _ rfl rfl) rfl rfl (Parts.nil _))) rfl) ?_
 refine GoP.oneB rfl Qs (ef_buildSlice (row ([(⟨r34, r36, 0⟩ : Arc)] : List Arc)) rfl (Jn _ _ _ _ _ _ _ _ ⟨rfl, rfl⟩ (Part.ag _ _ rfl) rfl rfl (Parts.nil _)) rfl rfl rfl rfl) (Qd _ _ _ _ _ Qk (Qm _)) (fun β38 => ?_)
 have c40 := ck_l H; replace H := ck_r H
 refine GoP.oneB rfl Qs (ef_append rfl rfl Rem.p2 (Src.own Qw (by first | omega | (simp only [szl]; omega) | (simp only [szl]; done))) (cat_row (α := Arc) (by first | rfl | omega | (simp only [szl] <;> first | rfl | omega)) (by first | rfl | omega | (simp only [szl] <;> first | rfl | omega)) (fun _ _ _ _ => rfl)) (by first | omega | (simp only [szl]; omega) | (simp only [szl]; done)) (app_le c40 rfl) rfl rfl rfl) (Qd _ _ _ _ _ Rem.p2 (Qd _ _ _ _ _ Jk (Qm _))) (fun β39 => ?_)
 refine Qx rfl (Qi rfl rfl) ?_
 refine GoP.done ?_
 refine GoK.blk (Qe (Qc ?_))
 refine Qa (ps_add rfl rfl rfl hIk31) ?_
 refine Qa (Ql rfl rfl) ?_
 refine Qo ?_
 obtain rfl := Qf H
 exact GoK.againJ m32' (by omega) ⟨_, _, β39, ⟨by omega, hF28⟩, rfl, rfl⟩ (Qg rfl (Jm rfl (Jp (by first | rfl | omega | (simp only [row_len, gridC_len, rowO_len, List.length_append, List.length_cons, List.length_nil] <;> first | rfl | omega))) (Qg rfl (Qg rfl (Qg rfl (Qg rfl (Qg rfl (Qg rfl (Qy))))))))) (Qn _ _ _ _ _ Qk (Qr _) (Qn _ _ _ _ _ Rem.p2 (Jj ⟨Qs, Qb _⟩) (Qn _ _ _ _ _ Rem.p2 (Jj ⟨Qs, Qb _⟩) (Qn _ _ _ _ _ Rem.p2 (Jj ⟨⟨⟨Qs, Qb _⟩, Qb _⟩, Qb _⟩) (Qn _ _ _ _ _ Rem.p2 (Jj ⟨Qs, Qb _⟩) (Jb _))))))
 obtain rfl : m32 = 0 := by omega
 refine GoC.exit rfl ?_
 cases hF28
 exact Jr ⟨β25, rfl, rfl⟩ (Jm rfl (Jp (by first | rfl | omega | (simp only [row_len, gridC_len, rowO_len] <;> first | rfl | omega))) (Qg rfl (Qg rfl (Qg rfl (Qy))))) (Qn _ _ _ _ _ Qk (Qr _) (Qn _ _ _ _ _ Qk (Jj ⟨Qs, Qb _⟩) (Qn _ _ _ _ _ Qk (Jj ⟨Qs, Qb _⟩) (Qn _ _ _ _ _ Qk (Jj ⟨⟨⟨Qs, Qb _⟩, Qb _⟩, Qb _⟩) (Qn _ _ _ _ _ Qk (Jj ⟨Qs, Qb _⟩) (Jb _))))))
 rintro v h ⟨β25, rfl, rfl⟩
 have H := HK27; clear HK27
 refine Qe (Qj ?_)
 refine GoC.drawA (.q 0 (.q 1 (.q 2 (.q 4 (.q 5 (.q 6 (.q 7 (.one 3 (.one 8 (.q 9 (.q 10 (.done)))))))))))) follows (by kernel_rfl) ?_
 refine Qx rfl (Jf rfl At.p4 At.p4 Qh rfl rfl) ?_
 refine Qx rfl (Ql rfl rfl) ?_
 refine Qx rfl (Ql rfl rfl) ?_
 refine Qx rfl (Jf rfl At.p4 At.p4 Qh rfl rfl) ?_
 have c42 := ck_l H; replace H := ck_r H
 refine Qx rfl (ps_sub rfl rfl rfl c42) ?_
 refine Qx rfl (Ql rfl rfl) ?_
 refine Qx rfl (Ql rfl rfl) ?_
 have hb := Jd H; clear H
 obtain ⟨r43, e44, H⟩ := hb
 refine GoP.oneC rfl Qs (ef_call rfl (Qm _) (Qm _) (ih n (subl l 1 (l.length - 1)) many e44) (Qq (Qp _ _) (Qq (Qp _ _) (Qq (Qp _ _) (Qz)))) rfl (colour_count_I (r43))) (Qd _ _ _ _ _ Qk (Qd _ _ _ _ _ Qk (Qd _ _ _ _ _ Qk (Qd _ _ _ _ _ Qk (Qd _ _ _ _ _ Qk (Qm _)))))) (fun rr HH hp => ?_)
 obtain ⟨rfl, rfl⟩ := hp
 have hb := Jd H; clear H
 obtain ⟨r45, e46, H⟩ := hb
 refine GoP.oneC rfl Qs (ef_call rfl (Qm _) (Qd _ _ _ _ _ Qk (Qm _)) (ih (n - 1) l30 many e46) (Qq (Qp _ _) (Qq (Lend.all' Qw (by first | rfl | omega | (simp only [szl] <;> first | rfl | omega)) rfl) (Qq (Qp _ _) (Qz)))) rfl (colour_count_I (r45))) (Qd _ _ _ _ _ Qk (Qd _ _ _ _ _ Qk (Qd _ _ _ _ _ Qk (Qd _ _ _ _ _ Qk (Qd _ _ _ _ _ Qk (Qm _)))))) (fun rr HH hp => ?_)
 obtain ⟨rfl, rfl⟩ := hp
 have c47 := ck_l H; replace H := ck_r H
 refine Qx rfl (ps_sub rfl rfl rfl c47) ?_
 refine Qx rfl (Qi rfl rfl) ?_
 refine GoP.done ?_
 refine Qe ?_
 obtain rfl := Qf H
 exact Jh (ds := [.v (.int .i64 (r43 - r45))]) Tryd.results43 (Qt (Qv rfl) (Je)) (Qm _) ⟨rfl, rfl⟩
def colour_Count_F (g : Graph) (many : Int) : Option (Int × Int) :=
 (graph_CheckLong_F g).bind fun r2 =>
 if r2 ≠ 0 then
  some (0, r2)
 else
  if 8 < g.n then
   some (0, 2)
  else
   if 12 < ((g.as.length : Nat) : Int) then
    some (0, 2)
   else
    if many < 0 then
     some (0, 1)
    else
     if 20 < many then
      some (0, 1)
     else
      (colour_count_F 100 g.n g.as many).bind fun r10 =>
      some (r10, 0)
def colour_Count_P (out : Int × Int) (d : D) (H : List HL) : Prop := d = .tp 2 (nth [.v (.int .i64 out.1), .v (.int .i64 out.2)]) ∧ H = []
theorem colour_Count_I (out : Int × Int) : IndepP (colour_Count_P out) := IndepP.of (by rintro _ _ ⟨rfl, rfl⟩; exact ⟨inferInstance, inferInstance⟩)
set_option maxRecDepth 100000 in
set_option maxHeartbeats 4000000 in
theorem colour_Count_spec (g : Graph) (many : Int) {out : Int × Int} (H : colour_Count_F g many = some out) : Does Tryd.prog 27 [.ag 2 (nth [.v (.int .i64 g.n), slD g.as]), .v (.int .i64 many)] [] (colour_Count_P out) := by
 unfold colour_Count_F at H
 refine Does.intro Tryd.func27 rfl Tryd.ntmps27 rfl fun w0 I0 tb0 => ?_
 refine Qj (Qc ?_)
 refine Jq (ef_boxAg rfl rfl) (fun β1 => ?_)
 refine Qa (Qi rfl rfl) ?_
 refine Qa (Qi rfl rfl) ?_
 refine Qo (Qe (Qj (Qj (Qc ?_))))
 refine Qa (ps_loadAg rfl Qw Qw Qh rfl rfl) ?_
 have hb := Jd H; clear H
 obtain ⟨r2, e3, H⟩ := hb
 refine GoO.effC (ef_call rfl (Qm _) (Qm _) (graph_CheckLong_spec g e3) (Qq (Lend.agA ⟨⟨Qs, Qp _ _⟩, Qp _ _⟩) (Qz)) rfl (graph_CheckLong_I (r2))) (fun rr HH hp => ?_)
 obtain ⟨rfl, rfl⟩ := hp
 refine Qa (Qi rfl rfl) ?_
 refine Qo (Qe (Qj (Qc ?_)))
 refine Qa (Ql rfl rfl) ?_
 refine Qa (ps_neq rfl rfl rfl) ?_
 refine Qo (Qe ?_)
 refine Jc rfl (fun h4 => ?_) (fun h4 => ?_)
 replace H := Jt h4 H
 refine Qj (Qc ?_)
 refine Qa (Ql rfl rfl) ?_
 refine Qa (Qi rfl rfl) ?_
 refine Qa (Qi rfl rfl) ?_
 refine Qo (Qe ?_)
 obtain rfl := Qf H
 exact Jh (ds := [.v (.int .i64 0), .v (.int .i64 r2)]) Tryd.results27 (Qt (Qv rfl) (Qt (Qv rfl) (Je))) (Qm _) ⟨rfl, rfl⟩
 replace H := Ju h4 H
 refine Jg (Qe (Qj (Qj (Qc ?_))))
 refine Qa (Qu rfl rfl) ?_
 refine Qa (Jf rfl Qw Qw Qh rfl rfl) ?_
 refine Qa (ps_gtr rfl rfl rfl) ?_
 refine Qa (Ql rfl rfl) ?_
 refine GoO.guardE rfl rfl rfl rfl (fun h5 => ?_) (fun h5 => ?_)
 replace H := Ju h5 H
 refine Qa (Qu rfl rfl) ?_
 refine Jl rfl rfl rfl ?_
 refine Qa (Jf rfl Qw Qw Qh rfl rfl) ?_
 refine Jl rfl rfl rfl ?_
 refine Qa (ps_len rfl (by constructor) rfl) ?_
 refine GoO.lenLe (n := g.as.length) (x := .tmp 17) rfl (by constructor) sl_lenLe (fun ml6 => ?_)
 refine Jl rfl rfl rfl ?_
 refine Qa (ps_gtr rfl rfl rfl) ?_
 refine Qa (ps_pickF rfl rfl rfl) ?_
 refine Qo (Qe ?_)
 refine Jc rfl (fun h7 => ?_) (fun h7 => ?_)
 replace H := Jt h7 H
 refine Qj (Qc ?_)
 refine Qa (Qi rfl rfl) ?_
 refine Qa (Qi rfl rfl) ?_
 refine Qo (Qe ?_)
 obtain rfl := Qf H
 exact Jh (ds := [.v (.int .i64 0), .v (.int .i64 2)]) Tryd.results27 (Qt (Qv rfl) (Qt (Qv rfl) (Je))) (Qm _) ⟨rfl, rfl⟩
 replace H := Ju h7 H
 refine Jg (Qe (Qj (Qj (Qc ?_))))
 refine Qa (Ql rfl rfl) ?_
 refine Qa (ps_lss rfl rfl rfl) ?_
 refine Qa (Ql rfl rfl) ?_
 refine GoO.guardE rfl rfl rfl rfl (fun h8 => ?_) (fun h8 => ?_)
 replace H := Ju h8 H
 refine Qa (Ql rfl rfl) ?_
 refine Jl rfl rfl rfl ?_
 refine Qa (ps_gtr rfl rfl rfl) ?_
 refine Qa (ps_pickF rfl rfl rfl) ?_
 refine Qo (Qe ?_)
 refine Jc rfl (fun h9 => ?_) (fun h9 => ?_)
 replace H := Jt h9 H
 refine Qj (Qc ?_)
 refine Qa (Qi rfl rfl) ?_
 refine Qa (Qi rfl rfl) ?_
 refine Qo (Qe ?_)
 obtain rfl := Qf H
 exact Jh (ds := [.v (.int .i64 0), .v (.int .i64 1)]) Tryd.results27 (Qt (Qv rfl) (Qt (Qv rfl) (Je))) (Qm _) ⟨rfl, rfl⟩
 replace H := Ju h9 H
 refine Jg (Qe (Qj (Qc ?_)))
 refine Qa (Qu rfl rfl) ?_
 refine Qa (Jf rfl Qw Qw Qh rfl rfl) ?_
 refine Qa (Qu rfl rfl) ?_
 refine Qa (Jf rfl Qw Qw Qh rfl rfl) ?_
 refine Qa (Ql rfl rfl) ?_
 have hb := Jd H; clear H
 obtain ⟨r10, e11, H⟩ := hb
 refine GoO.effC (ef_call rfl (Qm _) (Qm _) (colour_count_spec 100 g.n g.as many e11) (Qq (Qp _ _) (Qq (Qp _ _) (Qq (Qp _ _) (Qz)))) rfl (colour_count_I (r10))) (fun rr HH hp => ?_)
 obtain ⟨rfl, rfl⟩ := hp
 refine Qa (Qi rfl rfl) ?_
 refine Qa (Qi rfl rfl) ?_
 refine Qo (Qe ?_)
 obtain rfl := Qf H
 exact Jh (ds := [.v (.int .i64 r10), .v (.int .i64 0)]) Tryd.results27 (Qt (Qv rfl) (Qt (Qv rfl) (Je))) (Qm _) ⟨rfl, rfl⟩
 replace H := Jt h8 H
 refine Ja rfl rfl rfl rfl ?_
 refine Qa (ps_pickT rfl rfl rfl) ?_
 refine Qo (Qe ?_)
 refine GoC.condT rfl ?_
 refine Qj (Qc ?_)
 refine Qa (Qi rfl rfl) ?_
 refine Qa (Qi rfl rfl) ?_
 refine Qo (Qe ?_)
 obtain rfl := Qf H
 exact Jh (ds := [.v (.int .i64 0), .v (.int .i64 1)]) Tryd.results27 (Qt (Qv rfl) (Qt (Qv rfl) (Je))) (Qm _) ⟨rfl, rfl⟩
 replace H := Jt h5 H
 refine Ja rfl rfl rfl rfl ?_
 refine Ja rfl rfl rfl rfl ?_
 refine Ja rfl rfl rfl rfl ?_
 refine Qa (ps_pickT rfl rfl rfl) ?_
 refine Qo (Qe ?_)
 refine GoC.condT rfl ?_
 refine Qj (Qc ?_)
 refine Qa (Qi rfl rfl) ?_
 refine Qa (Qi rfl rfl) ?_
 refine Qo (Qe ?_)
 obtain rfl := Qf H
 exact Jh (ds := [.v (.int .i64 0), .v (.int .i64 2)]) Tryd.results27 (Qt (Qv rfl) (Qt (Qv rfl) (Je))) (Qm _) ⟨rfl, rfl⟩
end Go.Proofs.YthchdnemndolbaaDoor
