/- The functions colour.count, colour.Count, told as plain functions, and that the code does as they say. -/
import Derived.Test.YtblhoelmodbifaaTys
import Derived.Test.YtblhoelmodbifaaDat
import Derived.Test.YtblhoelmodbifaaGgraph
namespace Go.Proofs.Ytblhoelmodbifaa
open Go Go.Proofs.Ytblhoelmodbifaa.Sx
set_option linter.unusedVariables false
set_option linter.unusedSimpArgs false
def colour_count_c1_F (p0 : Int) (c_0 : Int) (c_1 : Int) (c_2 : Int) : Option (Int) :=
 if p0 = c_0 then
  some c_1
 else
  ck (InI (c_2 - 1)) <|
  if p0 = (c_2 - 1) then
   some c_0
  else
   some p0
def colour_count_c1_P (out : Int) (d : D) (H : List HL) : Prop := d = .v (.int .i64 out) ∧ H = []
theorem colour_count_c1_I (out : Int) : IndepP (colour_count_c1_P out) := IndepP.of (by rintro _ _ ⟨rfl, rfl⟩; exact ⟨inferInstance, inferInstance⟩)
set_option maxRecDepth 100000 in
set_option maxHeartbeats 4000000 in
theorem colour_count_c1_spec (p0 : Int) (c_0 : Int) (c_1 : Int) (c_2 : Int) {out : Int} (H : colour_count_c1_F p0 c_0 c_1 c_2 = some out) : Does Try.prog 61 [.v (.int .i64 p0), .rp 1 1 (row [c_0]).get 0 0, .rp 1 1 (row [c_1]).get 0 0, .rp 1 1 (row [c_2]).get 0 0] [] (colour_count_c1_P out) := by
 unfold colour_count_c1_F at H
 refine Does.intro Try.func61 rfl Try.ntmps61 rfl fun w0 I0 => ?_
 refine GoC.seq ?_
 refine GoC.region ?_
 refine GoO.pure (ps_assign rfl rfl) ?_
 refine GoO.nil ?_
 refine GoK.code ?_
 refine GoC.seq ?_
 refine GoC.seq ?_
 refine GoC.region ?_
 refine GoO.pure (ps_move rfl rfl) ?_
 refine GoO.pure (ps_loadR rfl Nat.zero_lt_one rfl rfl) ?_
 refine GoO.pure (ps_eql rfl rfl rfl) ?_
 refine GoO.nil ?_
 refine GoK.code ?_
 refine GoC.condD rfl (fun h1 => ?_) (fun h1 => ?_)
 replace H := ite_t h1 H
 refine GoC.seq ?_
 refine GoC.region ?_
 refine GoO.pure (ps_loadR rfl Nat.zero_lt_one rfl rfl) ?_
 refine GoO.pure (ps_assign rfl rfl) ?_
 refine GoO.nil ?_
 refine GoK.code ?_
 obtain rfl := Option.some.inj H
 exact GoC.retL (ds := [.v (.int .i64 c_1)]) Try.results61 (ResL.cons (ResD.tmp rfl) (ResL.nil)) (Take.nil _) ⟨rfl, rfl⟩
 replace H := ite_f h1 H
 refine GoC.skip ?_
 refine GoK.code ?_
 refine GoC.seq ?_
 refine GoC.seq ?_
 refine GoC.region ?_
 refine GoO.pure (ps_move rfl rfl) ?_
 refine GoO.pure (ps_loadR rfl Nat.zero_lt_one rfl rfl) ?_
 have c2 := ck_l H; replace H := ck_r H
 refine GoO.pure (ps_sub rfl rfl rfl c2) ?_
 refine GoO.pure (ps_eql rfl rfl rfl) ?_
 refine GoO.nil ?_
 refine GoK.code ?_
 refine GoC.condD rfl (fun h3 => ?_) (fun h3 => ?_)
 replace H := ite_t h3 H
 refine GoC.seq ?_
 refine GoC.region ?_
 refine GoO.pure (ps_loadR rfl Nat.zero_lt_one rfl rfl) ?_
 refine GoO.pure (ps_assign rfl rfl) ?_
 refine GoO.nil ?_
 refine GoK.code ?_
 obtain rfl := Option.some.inj H
 exact GoC.retL (ds := [.v (.int .i64 c_0)]) Try.results61 (ResL.cons (ResD.tmp rfl) (ResL.nil)) (Take.nil _) ⟨rfl, rfl⟩
 replace H := ite_f h3 H
 refine GoC.skip ?_
 refine GoK.code ?_
 refine GoC.seq ?_
 refine GoC.region ?_
 refine GoO.pure (ps_move rfl rfl) ?_
 refine GoO.pure (ps_assign rfl rfl) ?_
 refine GoO.nil ?_
 refine GoK.code ?_
 obtain rfl := Option.some.inj H
 exact GoC.retL (ds := [.v (.int .i64 p0)]) Try.results61 (ResL.cons (ResD.tmp rfl) (ResL.nil)) (Take.nil _) ⟨rfl, rfl⟩

def colour_count_B1 (many : Int) : Nat → Int → Option (Int) := fun k10 x5 =>
 ck (InI (x5 * many)) <|
 some (x5 * many)
def colour_count_B2 (n : Int) (l : (List Arc)) : Nat → (List Arc) → Option ((List Arc)) := fun k31 l26 =>
 (colour_count_c1_F (((subl l 1 (l.length - 1)).getD k31 El.d).f) (max ((l.getD 0 El.d).f) ((l.getD 0 El.d).t)) (min ((l.getD 0 El.d).f) ((l.getD 0 El.d).t)) n).bind fun r34 =>
 (colour_count_c1_F (((subl l 1 (l.length - 1)).getD k31 El.d).t) (max ((l.getD 0 El.d).f) ((l.getD 0 El.d).t)) (min ((l.getD 0 El.d).f) ((l.getD 0 El.d).t)) n).bind fun r36 =>
 ck (l26.length + 1 ≤ 5864062014805) <|
 some (l26 ++ ([(⟨r34, r36, 0⟩ : Arc)] : List Arc))
def colour_count_S (rec : Int → (List Arc) → Int → Option (Int)) (n : Int) (l : (List Arc)) (many : Int) : Option (Int) :=
 if ((l.length : Nat) : Int) = 0 then
  ck (InI n) <|
  (forN (colour_count_B1 many) n.toNat 0 1).bind fun x9 =>
  some x9
 else
  ck (0 < l.length) <|
  ck (1 ≤ l.length) <|
  if ((l.getD 0 El.d).f) = ((l.getD 0 El.d).t) then
   some 0
  else
   (forN (colour_count_B2 n l) ((subl l 1 (l.length - 1)).length) 0 []).bind fun l30 =>
   ck (InI (n - 1)) <|
   (rec n (subl l 1 (l.length - 1)) many).bind fun r43 =>
   (rec (n - 1) l30 many).bind fun r45 =>
   ck (InI (r43 - r45)) <|
   some (r43 - r45)
def colour_count_F : Nat → Int → (List Arc) → Int → Option (Int)
 | 0 => fun _ _ _ => none
 | fuel + 1 => colour_count_S (colour_count_F fuel)
def colour_count_P (out : Int) (d : D) (H : List HL) : Prop := d = .v (.int .i64 out) ∧ H = []
theorem colour_count_I (out : Int) : IndepP (colour_count_P out) := IndepP.of (by rintro _ _ ⟨rfl, rfl⟩; exact ⟨inferInstance, inferInstance⟩)
set_option maxRecDepth 100000 in
set_option maxHeartbeats 4000000 in
theorem colour_count_spec : ∀ (fuel : Nat) (n : Int) (l : (List Arc)) (many : Int) {out : Int} (H : colour_count_F fuel n l many = some out), Does Try.prog 55 [.v (.int .i64 n), slD l, .v (.int .i64 many)] [] (colour_count_P out) := by
 intro fuel
 induction fuel with
 | zero => intro n l many out H; cases H
 | succ fuel ih =>
 intro n l many out H
 replace H : colour_count_S (colour_count_F fuel) n l many = some out := H
 generalize colour_count_F fuel = rec at ih H
 unfold colour_count_S at H
 refine Does.intro Try.func55 rfl Try.ntmps55 rfl fun w0 I0 => ?_
 refine GoC.seq ?_
 refine GoC.region ?_
 refine GoO.effB (ef_box rfl rfl rfl) (fun β1 => ?_)
 refine GoO.pure (ps_assign rfl rfl) ?_
 refine GoO.nil ?_
 refine GoK.code ?_
 refine GoC.seq ?_
 refine GoC.seq ?_
 refine GoC.region ?_
 refine GoO.pure (ps_move rfl rfl) ?_
 refine GoO.pure (ps_len rfl (by constructor) rfl) ?_
 refine GoO.lenLe (n := l.length) (x := .tmp 16) rfl (by constructor) sl_lenLe (fun ml2 => ?_)
 refine GoO.pure (ps_eql rfl rfl rfl) ?_
 refine GoO.nil ?_
 refine GoK.code ?_
 refine GoC.condD rfl (fun h3 => ?_) (fun h3 => ?_)
 replace H := ite_t h3 H
 refine GoC.seq ?_
 refine GoC.region ?_
 refine GoO.pure (ps_assign rfl rfl) ?_
 refine GoO.nil ?_
 refine GoK.code ?_
 refine GoC.seq ?_
 refine GoC.seq ?_
 refine GoC.region ?_
 refine GoO.pure (ps_load rfl At.p0 At.p0 Nat.zero_lt_one rfl rfl) ?_
 refine GoO.pure (ps_move rfl rfl) ?_
 refine GoO.nil ?_
 refine GoK.code ?_
 have c4 := ck_l H; replace H := ck_r H
 have hb := bind_l H; clear H
 obtain ⟨x9, hl13, HK6⟩ := hb
 refine GoC.blockJ [] [.one β1 3 1 (st1 (nth [.v (.int .i64 n)]))] (fun v h => v = [(7, .v (.int .i64 x9))] ∧ h = []) ?_ ?_
 refine GoC.loopJ [(2, _), (19, _)] [.one β1 3 1 (st1 (nth [.v (.int .i64 n)]))] (fun m v h => ∃ (k10 : Nat) (x5 : Int), (k10 + m = n.toNat ∧ forN (colour_count_B1 many) m k10 x5 = some x9) ∧ v = [(20, .v (.int .i64 ((k10 : Nat) : Int))), (7, .v (.int .i64 x5))] ∧ h = []) n.toNat ⟨_, _, ⟨by omega, hl13⟩, rfl, rfl⟩ (EnvD.eq rfl (EnvD.eq rfl (EnvD.eq rfl (EnvD.eq rfl (EnvD.nil))))) (TkD.cons _ _ _ _ _ Rem.p0 (HLe.st ⟨trivial, DLe.refl _⟩) (TkD.nil _)) ?_
 rintro m11 v h ⟨k10, x5, ⟨hkk10, hF7⟩, rfl, rfl⟩
 refine GoC.seq ?_
 refine GoC.region ?_
 refine GoO.pure (ps_lss rfl rfl rfl) ?_
 refine GoO.nil ?_
 refine GoK.code ?_
 refine GoC.seq ?_
 refine GoC.condD rfl (fun (hk10 : (k10 : Int) < n) => ?_) (fun (hk10 : ¬ (k10 : Int) < n) => ?_)
 obtain ⟨m11', rfl⟩ : ∃ x, m11 = x + 1 := ⟨m11 - 1, by omega⟩
 have hb := bind_l hF7; clear hF7
 obtain ⟨qrm11, H, hF7⟩ := hb
 have hnk10 : k10 < n.toNat := by omega
 have hIk10 : InI ((k10 : Int) + 1) := inI_cnt hk10 c4
 refine GoC.skip ?_
 refine GoK.code ?_
 refine GoC.seq ?_
 refine GoC.block ?_
 refine GoC.region ?_
 refine GoO.pure (ps_move rfl rfl) ?_
 refine GoO.pure (ps_move rfl rfl) ?_
 have c12 := ck_l H; replace H := ck_r H
 refine GoO.pure (ps_mul rfl rfl rfl c12) ?_
 refine GoO.pure (ps_assign rfl rfl) ?_
 refine GoO.nil ?_
 refine GoK.blk ?_
 refine GoK.code ?_
 refine GoC.region ?_
 refine GoO.pure (ps_add rfl rfl rfl hIk10) ?_
 refine GoO.pure (ps_move rfl rfl) ?_
 refine GoO.nil ?_
 obtain rfl := Option.some.inj H
 exact GoK.againJ m11' (by omega) ⟨_, _, ⟨by omega, hF7⟩, rfl, rfl⟩ (EnvD.eq rfl (EnvD.eq rfl (EnvD.eq rfl (EnvD.eq rfl (EnvD.nil))))) (TkD.cons _ _ _ _ _ Rem.p0 (HLe.st ⟨trivial, DLe.refl _⟩) (TkD.nil _))
 obtain rfl : m11 = 0 := by omega
 refine GoC.exit rfl ?_
 cases hF7
 exact GoK.meet ⟨rfl, rfl⟩ (EnvD.eq rfl (EnvD.nil)) (TkD.cons _ _ _ _ _ Rem.p0 (HLe.st ⟨trivial, DLe.refl _⟩) (TkD.nil _))
 rintro v h ⟨rfl, rfl⟩
 have H := HK6; clear HK6
 refine GoK.code ?_
 refine GoC.seq ?_
 refine GoC.region ?_
 refine GoO.pure (ps_move rfl rfl) ?_
 refine GoO.pure (ps_assign rfl rfl) ?_
 refine GoO.nil ?_
 refine GoK.code ?_
 obtain rfl := Option.some.inj H
 exact GoC.retL (ds := [.v (.int .i64 x9)]) Try.results55 (ResL.cons (ResD.tmp rfl) (ResL.nil)) (Take.nil _) ⟨rfl, rfl⟩
 replace H := ite_f h3 H
 refine GoC.skip ?_
 refine GoK.code ?_
 refine GoC.seq ?_
 refine GoC.drawA (.q 0 (.q 1 (.q 2 (.q 3 (.q 4 (.one 5 (.one 6 (.q 7 (.done))))))))) follows (by kernel_rfl) ?_
 refine GoP.qN rfl (ps_move rfl rfl) ?_
 have c14 := ck_l H; replace H := ck_r H
 refine GoP.qN rfl (ps_indexAddrRN (i := 0) rfl rfl c14 rfl) ?_
 refine GoP.qN rfl (ps_loadAgR rfl c14 rfl rfl) ?_
 refine GoP.qN rfl (ps_move rfl rfl) ?_
 have c15 := ck_l H; replace H := ck_r H
 refine GoP.qN rfl (ps_sliceR rfl (Bd.nat _ _ 1 _ rfl) (Bd.no _) c15 (Nat.le_refl _) rfl) ?_
 refine GoP.leD (Le.re 31 rfl (DLe.part (xs := l) (r := 1) (len := l.length - 1) (by have := c15; first | omega | (simp only [subl_length, List.length_set, List.length_append, List.length_cons, List.length_nil, List.length_replicate, row_len]; omega)))) ?_
 refine GoP.oneB rfl trivial (ef_alloc rfl) (Take.cons _ _ _ _ _ Rem.p0 (Take.nil _)) (fun β16 => ?_)
 refine GoP.one1 rfl trivial (ef_storeAg rfl rfl At.p0 upd_whole Nat.zero_lt_one rfl) (Take.cons _ _ _ _ _ Rem.p0 (Take.cons _ _ _ _ _ Rem.p0 (Take.nil _))) ?_
 refine GoP.qN rfl (ps_assign rfl rfl) ?_
 refine GoP.done ?_
 refine GoK.code ?_
 refine GoC.seq ?_
 refine GoC.seq ?_
 refine GoC.region ?_
 refine GoO.pure (ps_fieldAddr rfl rfl) ?_
 refine GoO.pure (ps_load rfl At.p0 At.p0 Nat.zero_lt_one rfl rfl) ?_
 refine GoO.pure (ps_fieldAddr rfl rfl) ?_
 refine GoO.pure (ps_load rfl At.p0 At.p0 Nat.zero_lt_one rfl rfl) ?_
 refine GoO.pure (ps_eql rfl rfl rfl) ?_
 refine GoO.nil ?_
 refine GoK.code ?_
 refine GoC.condD rfl (fun h17 => ?_) (fun h17 => ?_)
 replace H := ite_t h17 H
 refine GoC.seq ?_
 refine GoC.region ?_
 refine GoO.pure (ps_assign rfl rfl) ?_
 refine GoO.nil ?_
 refine GoK.code ?_
 obtain rfl := Option.some.inj H
 exact GoC.retL (ds := [.v (.int .i64 0)]) Try.results55 (ResL.cons (ResD.tmp rfl) (ResL.nil)) (Take.nil _) ⟨rfl, rfl⟩
 replace H := ite_f h17 H
 refine GoC.skip ?_
 refine GoK.code ?_
 refine GoC.seq ?_
 refine GoC.drawA (.q 0 (.q 1 (.q 2 (.q 3 (.q 4 (.q 5 (.q 6 (.q 7 (.q 8 (.q 9 (.two 10 11 (.one 11 (.one 12 (.one 13 (.done)))) (.one 10 (.one 12 (.one 13 (.done))))))))))))))) follows (by kernel_rfl) ?_
 refine GoP.qN rfl (ps_fieldAddr rfl rfl) ?_
 refine GoP.qN rfl (ps_load rfl At.p0 At.p0 Nat.zero_lt_one rfl rfl) ?_
 refine GoP.qN rfl (ps_fieldAddr rfl rfl) ?_
 refine GoP.qN rfl (ps_load rfl At.p0 At.p0 Nat.zero_lt_one rfl rfl) ?_
 refine GoP.qN rfl (ps_min rfl rfl rfl) ?_
 refine GoP.qN rfl (ps_fieldAddr rfl rfl) ?_
 refine GoP.qN rfl (ps_load rfl At.p0 At.p0 Nat.zero_lt_one rfl rfl) ?_
 refine GoP.qN rfl (ps_fieldAddr rfl rfl) ?_
 refine GoP.qN rfl (ps_load rfl At.p0 At.p0 Nat.zero_lt_one rfl rfl) ?_
 refine GoP.qN rfl (ps_max rfl rfl rfl) ?_
 apply GoP.fork2
 exact rfl
 exact rfl
 exact trivial
 exact trivial
 exact ef_alloc rfl
 exact ef_alloc rfl
 exact (Take.cons _ _ _ _ _ Rem.p0 (Take.cons _ _ _ _ _ Rem.p0 (Take.nil _)))
 exact (Take.cons _ _ _ _ _ Rem.p0 (Take.cons _ _ _ _ _ Rem.p0 (Take.nil _)))
 intro hQ
 rintro _ ⟨β20, rfl⟩
 refine GoP.oneB rfl trivial (ef_alloc rfl) (Take.cons _ _ _ _ _ Rem.p1 (Take.cons _ _ _ _ _ Rem.p1 (Take.nil _))) (fun β22 => ?_)
 refine GoP.one1 rfl trivial (ef_store rfl rfl rfl At.p1 upd_st1 Nat.zero_lt_one rfl) (Take.cons _ _ _ _ _ Rem.p1 (Take.cons _ _ _ _ _ Rem.p1 (Take.cons _ _ _ _ _ Rem.p1 (Take.nil _)))) ?_
 refine GoP.one1 rfl trivial (ef_store rfl rfl rfl At.p0 upd_st1 Nat.zero_lt_one rfl) (Take.cons _ _ _ _ _ Rem.p0 (Take.cons _ _ _ _ _ Rem.p1 (Take.cons _ _ _ _ _ Rem.p1 (Take.nil _)))) ?_
 exact GoP.done (hQ β20 β22)
 intro hQ
 rintro _ ⟨β21, rfl⟩
 refine GoP.oneB rfl trivial (ef_alloc rfl) (Take.cons _ _ _ _ _ Rem.p1 (Take.cons _ _ _ _ _ Rem.p1 (Take.nil _))) (fun β23 => ?_)
 refine GoP.one1 rfl trivial (ef_store rfl rfl rfl At.p0 upd_st1 Nat.zero_lt_one rfl) (Take.cons _ _ _ _ _ Rem.p0 (Take.cons _ _ _ _ _ Rem.p1 (Take.cons _ _ _ _ _ Rem.p1 (Take.nil _)))) ?_
 refine GoP.one1 rfl trivial (ef_store rfl rfl rfl At.p1 upd_st1 Nat.zero_lt_one rfl) (Take.cons _ _ _ _ _ Rem.p1 (Take.cons _ _ _ _ _ Rem.p1 (Take.cons _ _ _ _ _ Rem.p1 (Take.nil _)))) ?_
 refine GoP.done (GoK.le ?_ (hQ β23 β21))
 refine Le.ofDW ?_ (TkD.cons _ _ _ _ _ Rem.p1 (HLe.refl _) (TkD.cons _ _ _ _ _ Rem.p0 (HLe.refl _) (TkD.cons _ _ _ _ _ Rem.p0 (HLe.refl _) (TkD.cons _ _ _ _ _ Rem.p0 (HLe.refl _) (TkD.nil _)))))
 repeat (first | exact EnvLeW.nil | refine EnvLeW.cons rfl ?_ | refine EnvLeW.skip rfl ?_)
 intro β20 β22
 refine GoK.code ?_
 refine GoC.seq ?_
 refine GoC.region ?_
 refine GoO.pure (ps_assign rfl rfl) ?_
 refine GoO.nil ?_
 refine GoK.code ?_
 refine GoC.seq ?_
 refine GoC.region ?_
 refine GoO.pure (ps_makeFunc rfl rfl rfl) ?_
 refine GoO.pure (ps_assign rfl rfl) ?_
 refine GoO.nil ?_
 refine GoK.code ?_
 refine GoC.seq ?_
 refine GoC.seq ?_
 refine GoC.region ?_
 refine GoO.pure (ps_move rfl rfl) ?_
 refine GoO.pure (ps_len rfl (by constructor) rfl) ?_
 refine GoO.lenLe (n := (subl l 1 (l.length - 1)).length) (x := .tmp 48) rfl (by constructor) sl_lenLe (fun ml24 => ?_)
 refine GoO.pure (ps_move rfl rfl) ?_
 refine GoO.nil ?_
 refine GoK.code ?_
 have hb := bind_l H; clear H
 obtain ⟨l30, hl41, HK27⟩ := hb
 refine GoC.blockJ [(2, .v (.int .i64 many)), (3, .ptr β1 1 0 0), (9, slD (subl l 1 (l.length - 1)))] [.one β22 3 1 (st1 (nth [.v (.int .i64 (max ((l.getD 0 El.d).f) ((l.getD 0 El.d).t)))])), .one β20 3 1 (st1 (nth [.v (.int .i64 (min ((l.getD 0 El.d).f) ((l.getD 0 El.d).t)))])), .one β16 43 3 (st1 (nth [.v (.int .i64 ((l.getD 0 El.d).f)), .v (.int .i64 ((l.getD 0 El.d).t)), .v (.int .i64 ((l.getD 0 El.d).c))])), .one β1 3 1 (st1 (nth [.v (.int .i64 n)]))] (fun v h => ∃ (β25 : BK), v = [(12, .own β25 3 0 l30.length)] ∧ h = [.one β25 43 3 (row l30)]) ?_ ?_
 refine GoC.loopJ [(2, _), (3, _), (9, _), (13, _), (48, _), (49, _)] [.one β22 3 1 (st1 (nth [.v (.int .i64 (max ((l.getD 0 El.d).f) ((l.getD 0 El.d).t)))])), .one β20 3 1 (st1 (nth [.v (.int .i64 (min ((l.getD 0 El.d).f) ((l.getD 0 El.d).t)))])), .one β16 43 3 (st1 (nth [.v (.int .i64 ((l.getD 0 El.d).f)), .v (.int .i64 ((l.getD 0 El.d).t)), .v (.int .i64 ((l.getD 0 El.d).c))])), .one β1 3 1 (st1 (nth [.v (.int .i64 n)]))] (fun m v h => ∃ (k31 : Nat) (l26 : (List Arc)) (β25 : BK), (k31 + m = (subl l 1 (l.length - 1)).length ∧ forN (colour_count_B2 n l) m k31 l26 = some l30) ∧ v = [(50, .v (.int .i64 ((k31 : Nat) : Int))), (12, .own β25 3 0 l26.length)] ∧ h = [.one β25 43 3 (row l26)]) ((subl l 1 (l.length - 1)).length) ⟨_, _, ⟨0, 0, 0⟩, ⟨by omega, hl41⟩, rfl, rfl⟩ (EnvD.eq rfl (EnvD.cons rfl (DLe.nilOwn) (EnvD.eq rfl (EnvD.eq rfl (EnvD.eq rfl (EnvD.eq rfl (EnvD.eq rfl (EnvD.eq rfl (EnvD.nil))))))))) (TkD.no _ _ _ _ _ rfl (TkD.cons _ _ _ _ _ Rem.p0 (HLe.st ⟨trivial, DLe.refl _⟩) (TkD.cons _ _ _ _ _ Rem.p0 (HLe.st ⟨trivial, DLe.refl _⟩) (TkD.cons _ _ _ _ _ Rem.p0 (HLe.st ⟨⟨⟨trivial, DLe.refl _⟩, DLe.refl _⟩, DLe.refl _⟩) (TkD.cons _ _ _ _ _ Rem.p0 (HLe.st ⟨trivial, DLe.refl _⟩) (TkD.nil _)))))) ?_
 rintro m32 v h ⟨k31, l26, β25, ⟨hkk31, hF28⟩, rfl, rfl⟩
 refine GoC.seq ?_
 refine GoC.region ?_
 refine GoO.pure (ps_lss rfl rfl rfl) ?_
 refine GoO.nil ?_
 refine GoK.code ?_
 refine GoC.seq ?_
 refine GoC.condD rfl (fun (hk31 : (k31 : Int) < (((subl l 1 (l.length - 1)).length : Nat) : Int)) => ?_) (fun (hk31 : ¬ (k31 : Int) < (((subl l 1 (l.length - 1)).length : Nat) : Int)) => ?_)
 obtain ⟨m32', rfl⟩ : ∃ x, m32 = x + 1 := ⟨m32 - 1, by omega⟩
 have hb := bind_l hF28; clear hF28
 obtain ⟨qrm32, H, hF28⟩ := hb
 have hnk31 : k31 < (subl l 1 (l.length - 1)).length := by omega
 have hIk31 : InI ((k31 : Int) + 1) := inI_len hk31 ml24
 refine GoC.skip ?_
 refine GoK.code ?_
 refine GoC.seq ?_
 refine GoC.block ?_
 refine GoC.seq ?_
 refine GoC.region ?_
 refine GoO.pure (ps_indexAddrRN rfl rfl hnk31 rfl) ?_
 refine GoO.pure (ps_loadAgR rfl hnk31 rfl rfl) ?_
 refine GoO.effB (ef_alloc rfl) (fun β33 => ?_)
 refine GoO.eff1 (ef_storeAg rfl rfl At.p0 upd_whole Nat.zero_lt_one rfl) ?_
 refine GoO.nil ?_
 refine GoK.code ?_
 refine GoC.drawP (.q 0 (.q 1 (.q 2 (.q 3 (.q 5 (.q 6 (.q 7 (.one 4 (.one 8 (.q 9 (.one 10 (.one 11 (.q 12 (.done)))))))))))))) [(15, _, _, _)] follows (by kernel_rfl) (Take.cons _ _ _ _ _ Rem.p0 (Take.nil _)) ?_
 refine GoP.qN rfl (ps_move rfl rfl) ?_
 refine GoP.qN rfl (ps_move rfl rfl) ?_
 refine GoP.qN rfl (ps_fieldAddr rfl rfl) ?_
 refine GoP.qN rfl (ps_load rfl At.p0 At.p0 Nat.zero_lt_one rfl rfl) ?_
 refine GoP.qN rfl (ps_move rfl rfl) ?_
 refine GoP.qN rfl (ps_fieldAddr rfl rfl) ?_
 refine GoP.qN rfl (ps_load rfl At.p0 At.p0 Nat.zero_lt_one rfl rfl) ?_
 have hb := bind_l H; clear H
 obtain ⟨r34, e35, H⟩ := hb
 refine GoP.oneC rfl trivial (ef_callv rfl rfl rfl (Take.nil _) (Take.cons _ _ _ _ _ Rem.p2 (Take.cons _ _ _ _ _ Rem.p2 (Take.cons _ _ _ _ _ Rem.p3 (Take.nil _)))) (colour_count_c1_spec (((subl l 1 (l.length - 1)).getD k31 El.d).f) (max ((l.getD 0 El.d).f) ((l.getD 0 El.d).t)) (min ((l.getD 0 El.d).f) ((l.getD 0 El.d).t)) n e35) (LendL.cons (Lend.refl _ _) (LendL.cons (Lend.box (ds := [.v (.int .i64 (max ((l.getD 0 El.d).f) ((l.getD 0 El.d).t)))]) At.p0 rfl (by decide) ⟨trivial, rfl⟩ (LendL.cons (Lend.refl _ _) (LendL.nil)) ⟨trivial, rfl⟩ rfl) (LendL.cons (Lend.box (ds := [.v (.int .i64 (min ((l.getD 0 El.d).f) ((l.getD 0 El.d).t)))]) At.p1 rfl (by decide) ⟨trivial, rfl⟩ (LendL.cons (Lend.refl _ _) (LendL.nil)) ⟨trivial, rfl⟩ rfl) (LendL.cons (Lend.box (ds := [.v (.int .i64 n)]) At.p2 rfl (by decide) ⟨trivial, rfl⟩ (LendL.cons (Lend.refl _ _) (LendL.nil)) ⟨trivial, rfl⟩ rfl) (LendL.nil))))) rfl (colour_count_c1_I (r34))) (Take.cons _ _ _ _ _ Rem.p0 (Take.nil _)) (fun rr HH hp => ?_)
 obtain ⟨rfl, rfl⟩ := hp
 have hb := bind_l H; clear H
 obtain ⟨r36, e37, H⟩ := hb
 refine GoP.oneC rfl trivial (ef_callv rfl rfl rfl (Take.nil _) (Take.cons _ _ _ _ _ Rem.p2 (Take.cons _ _ _ _ _ Rem.p2 (Take.cons _ _ _ _ _ Rem.p3 (Take.nil _)))) (colour_count_c1_spec (((subl l 1 (l.length - 1)).getD k31 El.d).t) (max ((l.getD 0 El.d).f) ((l.getD 0 El.d).t)) (min ((l.getD 0 El.d).f) ((l.getD 0 El.d).t)) n e37) (LendL.cons (Lend.refl _ _) (LendL.cons (Lend.box (ds := [.v (.int .i64 (max ((l.getD 0 El.d).f) ((l.getD 0 El.d).t)))]) At.p0 rfl (by decide) ⟨trivial, rfl⟩ (LendL.cons (Lend.refl _ _) (LendL.nil)) ⟨trivial, rfl⟩ rfl) (LendL.cons (Lend.box (ds := [.v (.int .i64 (min ((l.getD 0 El.d).f) ((l.getD 0 El.d).t)))]) At.p1 rfl (by decide) ⟨trivial, rfl⟩ (LendL.cons (Lend.refl _ _) (LendL.nil)) ⟨trivial, rfl⟩ rfl) (LendL.cons (Lend.box (ds := [.v (.int .i64 n)]) At.p2 rfl (by decide) ⟨trivial, rfl⟩ (LendL.cons (Lend.refl _ _) (LendL.nil)) ⟨trivial, rfl⟩ rfl) (LendL.nil))))) rfl (colour_count_c1_I (r36))) (Take.cons _ _ _ _ _ Rem.p0 (Take.nil _)) (fun rr HH hp => ?_)
 obtain ⟨rfl, rfl⟩ := hp
 refine GoP.qN rfl (ps_build (Parts.cons _ _ _ _ _ _ _ _ FdP.of (Part.one _ rfl rfl) rfl rfl (Parts.cons _ _ _ _ _ _ _ _ FdP.of (Part.one _ rfl rfl) rfl rfl (Parts.nil _))) rfl) ?_
 refine GoP.oneB rfl trivial (ef_buildSlice (row ([(⟨r34, r36, 0⟩ : Arc)] : List Arc)) rfl (Parts.cons _ _ _ _ _ _ _ _ ⟨rfl, rfl⟩ (Part.ag _ _ rfl) rfl rfl (Parts.nil _)) rfl rfl rfl rfl) (Take.cons _ _ _ _ _ Rem.p0 (Take.nil _)) (fun β38 => ?_)
 have c40 := ck_l H; replace H := ck_r H
 refine GoP.oneB rfl trivial (ef_append rfl rfl Rem.p2 (Src.own At.p0 (by first | omega | (simp only [subl_length, List.length_set, List.length_append, List.length_cons, List.length_nil, List.length_replicate, row_len]; omega) | (simp only [subl_length, List.length_set, List.length_append, List.length_cons, List.length_nil, List.length_replicate, row_len]; done))) (cat_row (α := Arc) (by first | rfl | omega | (simp only [subl_length, List.length_set, List.length_append, List.length_cons, List.length_nil, List.length_replicate, row_len] <;> first | rfl | omega)) (by first | rfl | omega | (simp only [subl_length, List.length_set, List.length_append, List.length_cons, List.length_nil, List.length_replicate, row_len] <;> first | rfl | omega)) (fun _ _ _ _ => rfl)) (by first | omega | (simp only [subl_length, List.length_set, List.length_append, List.length_cons, List.length_nil, List.length_replicate, row_len]; omega) | (simp only [subl_length, List.length_set, List.length_append, List.length_cons, List.length_nil, List.length_replicate, row_len]; done)) (app_le c40 rfl) rfl rfl rfl) (Take.cons _ _ _ _ _ Rem.p2 (Take.cons _ _ _ _ _ Rem.p1 (Take.nil _))) (fun β39 => ?_)
 refine GoP.qN rfl (ps_assign rfl rfl) ?_
 refine GoP.done ?_
 refine GoK.blk ?_
 refine GoK.code ?_
 refine GoC.region ?_
 refine GoO.pure (ps_add rfl rfl rfl hIk31) ?_
 refine GoO.pure (ps_move rfl rfl) ?_
 refine GoO.nil ?_
 obtain rfl := Option.some.inj H
 exact GoK.againJ m32' (by omega) ⟨_, _, β39, ⟨by omega, hF28⟩, rfl, rfl⟩ (EnvD.eq rfl (EnvD.cons rfl (DLe.len (by first | rfl | omega | (simp only [row_len, List.length_append, List.length_cons, List.length_nil] <;> first | rfl | omega))) (EnvD.eq rfl (EnvD.eq rfl (EnvD.eq rfl (EnvD.eq rfl (EnvD.eq rfl (EnvD.eq rfl (EnvD.nil))))))))) (TkD.cons _ _ _ _ _ Rem.p0 (HLe.refl _) (TkD.cons _ _ _ _ _ Rem.p2 (HLe.st ⟨trivial, DLe.refl _⟩) (TkD.cons _ _ _ _ _ Rem.p2 (HLe.st ⟨trivial, DLe.refl _⟩) (TkD.cons _ _ _ _ _ Rem.p2 (HLe.st ⟨⟨⟨trivial, DLe.refl _⟩, DLe.refl _⟩, DLe.refl _⟩) (TkD.cons _ _ _ _ _ Rem.p2 (HLe.st ⟨trivial, DLe.refl _⟩) (TkD.nil _))))))
 obtain rfl : m32 = 0 := by omega
 refine GoC.exit rfl ?_
 cases hF28
 exact GoK.meet ⟨β25, rfl, rfl⟩ (EnvD.cons rfl (DLe.len (by first | rfl | omega | (simp only [row_len] <;> first | rfl | omega))) (EnvD.eq rfl (EnvD.eq rfl (EnvD.eq rfl (EnvD.nil))))) (TkD.cons _ _ _ _ _ Rem.p0 (HLe.refl _) (TkD.cons _ _ _ _ _ Rem.p0 (HLe.st ⟨trivial, DLe.refl _⟩) (TkD.cons _ _ _ _ _ Rem.p0 (HLe.st ⟨trivial, DLe.refl _⟩) (TkD.cons _ _ _ _ _ Rem.p0 (HLe.st ⟨⟨⟨trivial, DLe.refl _⟩, DLe.refl _⟩, DLe.refl _⟩) (TkD.cons _ _ _ _ _ Rem.p0 (HLe.st ⟨trivial, DLe.refl _⟩) (TkD.nil _))))))
 rintro v h ⟨β25, rfl, rfl⟩
 have H := HK27; clear HK27
 refine GoK.code ?_
 refine GoC.seq ?_
 refine GoC.drawA (.q 0 (.q 1 (.q 2 (.q 4 (.q 5 (.q 6 (.q 7 (.one 3 (.one 8 (.q 9 (.q 10 (.done)))))))))))) follows (by kernel_rfl) ?_
 refine GoP.qN rfl (ps_load rfl At.p4 At.p4 Nat.zero_lt_one rfl rfl) ?_
 refine GoP.qN rfl (ps_move rfl rfl) ?_
 refine GoP.qN rfl (ps_move rfl rfl) ?_
 refine GoP.qN rfl (ps_load rfl At.p4 At.p4 Nat.zero_lt_one rfl rfl) ?_
 have c42 := ck_l H; replace H := ck_r H
 refine GoP.qN rfl (ps_sub rfl rfl rfl c42) ?_
 refine GoP.qN rfl (ps_move rfl rfl) ?_
 refine GoP.qN rfl (ps_move rfl rfl) ?_
 have hb := bind_l H; clear H
 obtain ⟨r43, e44, H⟩ := hb
 refine GoP.oneC rfl trivial (ef_call rfl (Take.nil _) (Take.nil _) (ih n (subl l 1 (l.length - 1)) many e44) (LendL.cons (Lend.refl _ _) (LendL.cons (Lend.refl _ _) (LendL.cons (Lend.refl _ _) (LendL.nil)))) rfl (colour_count_I (r43))) (Take.cons _ _ _ _ _ Rem.p0 (Take.cons _ _ _ _ _ Rem.p0 (Take.cons _ _ _ _ _ Rem.p0 (Take.cons _ _ _ _ _ Rem.p0 (Take.cons _ _ _ _ _ Rem.p0 (Take.nil _)))))) (fun rr HH hp => ?_)
 obtain ⟨rfl, rfl⟩ := hp
 have hb := bind_l H; clear H
 obtain ⟨r45, e46, H⟩ := hb
 refine GoP.oneC rfl trivial (ef_call rfl (Take.nil _) (Take.cons _ _ _ _ _ Rem.p0 (Take.nil _)) (ih (n - 1) l30 many e46) (LendL.cons (Lend.refl _ _) (LendL.cons (Lend.all' At.p0 (by first | rfl | omega | (simp only [subl_length, List.length_set, List.length_append, List.length_cons, List.length_nil, List.length_replicate, row_len] <;> first | rfl | omega)) rfl) (LendL.cons (Lend.refl _ _) (LendL.nil)))) rfl (colour_count_I (r45))) (Take.cons _ _ _ _ _ Rem.p0 (Take.cons _ _ _ _ _ Rem.p0 (Take.cons _ _ _ _ _ Rem.p0 (Take.cons _ _ _ _ _ Rem.p0 (Take.cons _ _ _ _ _ Rem.p0 (Take.nil _)))))) (fun rr HH hp => ?_)
 obtain ⟨rfl, rfl⟩ := hp
 have c47 := ck_l H; replace H := ck_r H
 refine GoP.qN rfl (ps_sub rfl rfl rfl c47) ?_
 refine GoP.qN rfl (ps_assign rfl rfl) ?_
 refine GoP.done ?_
 refine GoK.code ?_
 obtain rfl := Option.some.inj H
 exact GoC.retL (ds := [.v (.int .i64 (r43 - r45))]) Try.results55 (ResL.cons (ResD.tmp rfl) (ResL.nil)) (Take.nil _) ⟨rfl, rfl⟩

def colour_Count_F (g : Graph) (many : Int) : Option (Int × Int) :=
 (graph_CheckLong_F g).bind fun r2 =>
 if r2 ≠ 0 then
  some (0, r2)
 else
  if 8 < g.n then
   some (0, 2)
  else
   if 12 < ((g.as.length : Nat) : Int) then
    some (0, 2)
   else
    if many < 0 then
     some (0, 1)
    else
     if 20 < many then
      some (0, 1)
     else
      (colour_count_F 100 g.n g.as many).bind fun r10 =>
      some (r10, 0)
def colour_Count_P (out : Int × Int) (d : D) (H : List HL) : Prop := d = .tp 2 (nth [.v (.int .i64 out.1), .v (.int .i64 out.2)]) ∧ H = []
theorem colour_Count_I (out : Int × Int) : IndepP (colour_Count_P out) := IndepP.of (by rintro _ _ ⟨rfl, rfl⟩; exact ⟨inferInstance, inferInstance⟩)
set_option maxRecDepth 100000 in
set_option maxHeartbeats 4000000 in
theorem colour_Count_spec (g : Graph) (many : Int) {out : Int × Int} (H : colour_Count_F g many = some out) : Does Try.prog 37 [.ag 2 (nth [.v (.int .i64 g.n), slD g.as]), .v (.int .i64 many)] [] (colour_Count_P out) := by
 unfold colour_Count_F at H
 refine Does.intro Try.func37 rfl Try.ntmps37 rfl fun w0 I0 => ?_
 refine GoC.seq ?_
 refine GoC.region ?_
 refine GoO.effB (ef_boxAg rfl rfl) (fun β1 => ?_)
 refine GoO.pure (ps_assign rfl rfl) ?_
 refine GoO.pure (ps_assign rfl rfl) ?_
 refine GoO.nil ?_
 refine GoK.code ?_
 refine GoC.seq ?_
 refine GoC.seq ?_
 refine GoC.region ?_
 refine GoO.pure (ps_loadAg rfl At.p0 At.p0 Nat.zero_lt_one rfl rfl) ?_
 have hb := bind_l H; clear H
 obtain ⟨r2, e3, H⟩ := hb
 refine GoO.effC (ef_call rfl (Take.nil _) (Take.nil _) (graph_CheckLong_spec g e3) (LendL.cons (Lend.agA ⟨⟨trivial, Lend.refl _ _⟩, Lend.refl _ _⟩) (LendL.nil)) rfl (graph_CheckLong_I (r2))) (fun rr HH hp => ?_)
 obtain ⟨rfl, rfl⟩ := hp
 refine GoO.pure (ps_assign rfl rfl) ?_
 refine GoO.nil ?_
 refine GoK.code ?_
 refine GoC.seq ?_
 refine GoC.region ?_
 refine GoO.pure (ps_move rfl rfl) ?_
 refine GoO.pure (ps_neq rfl rfl rfl) ?_
 refine GoO.nil ?_
 refine GoK.code ?_
 refine GoC.condD rfl (fun h4 => ?_) (fun h4 => ?_)
 replace H := ite_t h4 H
 refine GoC.seq ?_
 refine GoC.region ?_
 refine GoO.pure (ps_move rfl rfl) ?_
 refine GoO.pure (ps_assign rfl rfl) ?_
 refine GoO.pure (ps_assign rfl rfl) ?_
 refine GoO.nil ?_
 refine GoK.code ?_
 obtain rfl := Option.some.inj H
 exact GoC.retL (ds := [.v (.int .i64 0), .v (.int .i64 r2)]) Try.results37 (ResL.cons (ResD.tmp rfl) (ResL.cons (ResD.tmp rfl) (ResL.nil))) (Take.nil _) ⟨rfl, rfl⟩
 replace H := ite_f h4 H
 refine GoC.skip ?_
 refine GoK.code ?_
 refine GoC.seq ?_
 refine GoC.seq ?_
 refine GoC.region ?_
 refine GoO.pure (ps_fieldAddr rfl rfl) ?_
 refine GoO.pure (ps_load rfl At.p0 At.p0 Nat.zero_lt_one rfl rfl) ?_
 refine GoO.pure (ps_gtr rfl rfl rfl) ?_
 refine GoO.pure (ps_move rfl rfl) ?_
 refine GoO.guardE rfl rfl rfl rfl (fun h5 => ?_) (fun h5 => ?_)
 replace H := ite_f h5 H
 refine GoO.pure (ps_fieldAddr rfl rfl) ?_
 refine GoO.guardT rfl rfl rfl ?_
 refine GoO.pure (ps_load rfl At.p0 At.p0 Nat.zero_lt_one rfl rfl) ?_
 refine GoO.guardT rfl rfl rfl ?_
 refine GoO.pure (ps_len rfl (by constructor) rfl) ?_
 refine GoO.lenLe (n := g.as.length) (x := .tmp 17) rfl (by constructor) sl_lenLe (fun ml6 => ?_)
 refine GoO.guardT rfl rfl rfl ?_
 refine GoO.pure (ps_gtr rfl rfl rfl) ?_
 refine GoO.pure (ps_pickF rfl rfl rfl) ?_
 refine GoO.nil ?_
 refine GoK.code ?_
 refine GoC.condD rfl (fun h7 => ?_) (fun h7 => ?_)
 replace H := ite_t h7 H
 refine GoC.seq ?_
 refine GoC.region ?_
 refine GoO.pure (ps_assign rfl rfl) ?_
 refine GoO.pure (ps_assign rfl rfl) ?_
 refine GoO.nil ?_
 refine GoK.code ?_
 obtain rfl := Option.some.inj H
 exact GoC.retL (ds := [.v (.int .i64 0), .v (.int .i64 2)]) Try.results37 (ResL.cons (ResD.tmp rfl) (ResL.cons (ResD.tmp rfl) (ResL.nil))) (Take.nil _) ⟨rfl, rfl⟩
 replace H := ite_f h7 H
 refine GoC.skip ?_
 refine GoK.code ?_
 refine GoC.seq ?_
 refine GoC.seq ?_
 refine GoC.region ?_
 refine GoO.pure (ps_move rfl rfl) ?_
 refine GoO.pure (ps_lss rfl rfl rfl) ?_
 refine GoO.pure (ps_move rfl rfl) ?_
 refine GoO.guardE rfl rfl rfl rfl (fun h8 => ?_) (fun h8 => ?_)
 replace H := ite_f h8 H
 refine GoO.pure (ps_move rfl rfl) ?_
 refine GoO.guardT rfl rfl rfl ?_
 refine GoO.pure (ps_gtr rfl rfl rfl) ?_
 refine GoO.pure (ps_pickF rfl rfl rfl) ?_
 refine GoO.nil ?_
 refine GoK.code ?_
 refine GoC.condD rfl (fun h9 => ?_) (fun h9 => ?_)
 replace H := ite_t h9 H
 refine GoC.seq ?_
 refine GoC.region ?_
 refine GoO.pure (ps_assign rfl rfl) ?_
 refine GoO.pure (ps_assign rfl rfl) ?_
 refine GoO.nil ?_
 refine GoK.code ?_
 obtain rfl := Option.some.inj H
 exact GoC.retL (ds := [.v (.int .i64 0), .v (.int .i64 1)]) Try.results37 (ResL.cons (ResD.tmp rfl) (ResL.cons (ResD.tmp rfl) (ResL.nil))) (Take.nil _) ⟨rfl, rfl⟩
 replace H := ite_f h9 H
 refine GoC.skip ?_
 refine GoK.code ?_
 refine GoC.seq ?_
 refine GoC.region ?_
 refine GoO.pure (ps_fieldAddr rfl rfl) ?_
 refine GoO.pure (ps_load rfl At.p0 At.p0 Nat.zero_lt_one rfl rfl) ?_
 refine GoO.pure (ps_fieldAddr rfl rfl) ?_
 refine GoO.pure (ps_load rfl At.p0 At.p0 Nat.zero_lt_one rfl rfl) ?_
 refine GoO.pure (ps_move rfl rfl) ?_
 have hb := bind_l H; clear H
 obtain ⟨r10, e11, H⟩ := hb
 refine GoO.effC (ef_call rfl (Take.nil _) (Take.nil _) (colour_count_spec 100 g.n g.as many e11) (LendL.cons (Lend.refl _ _) (LendL.cons (Lend.refl _ _) (LendL.cons (Lend.refl _ _) (LendL.nil)))) rfl (colour_count_I (r10))) (fun rr HH hp => ?_)
 obtain ⟨rfl, rfl⟩ := hp
 refine GoO.pure (ps_assign rfl rfl) ?_
 refine GoO.pure (ps_assign rfl rfl) ?_
 refine GoO.nil ?_
 refine GoK.code ?_
 obtain rfl := Option.some.inj H
 exact GoC.retL (ds := [.v (.int .i64 r10), .v (.int .i64 0)]) Try.results37 (ResL.cons (ResD.tmp rfl) (ResL.cons (ResD.tmp rfl) (ResL.nil))) (Take.nil _) ⟨rfl, rfl⟩
 replace H := ite_t h8 H
 refine GoO.guardF rfl rfl rfl rfl ?_
 refine GoO.pure (ps_pickT rfl rfl rfl) ?_
 refine GoO.nil ?_
 refine GoK.code ?_
 refine GoC.condT rfl ?_
 refine GoC.seq ?_
 refine GoC.region ?_
 refine GoO.pure (ps_assign rfl rfl) ?_
 refine GoO.pure (ps_assign rfl rfl) ?_
 refine GoO.nil ?_
 refine GoK.code ?_
 obtain rfl := Option.some.inj H
 exact GoC.retL (ds := [.v (.int .i64 0), .v (.int .i64 1)]) Try.results37 (ResL.cons (ResD.tmp rfl) (ResL.cons (ResD.tmp rfl) (ResL.nil))) (Take.nil _) ⟨rfl, rfl⟩
 replace H := ite_t h5 H
 refine GoO.guardF rfl rfl rfl rfl ?_
 refine GoO.guardF rfl rfl rfl rfl ?_
 refine GoO.guardF rfl rfl rfl rfl ?_
 refine GoO.pure (ps_pickT rfl rfl rfl) ?_
 refine GoO.nil ?_
 refine GoK.code ?_
 refine GoC.condT rfl ?_
 refine GoC.seq ?_
 refine GoC.region ?_
 refine GoO.pure (ps_assign rfl rfl) ?_
 refine GoO.pure (ps_assign rfl rfl) ?_
 refine GoO.nil ?_
 refine GoK.code ?_
 obtain rfl := Option.some.inj H
 exact GoC.retL (ds := [.v (.int .i64 0), .v (.int .i64 2)]) Try.results37 (ResL.cons (ResD.tmp rfl) (ResL.cons (ResD.tmp rfl) (ResL.nil))) (Take.nil _) ⟨rfl, rfl⟩

end Go.Proofs.Ytblhoelmodbifaa
