/- The functions weirkeep.PathsMenger, told as plain functions, and that the code does as they say. -/
import Derived.Test.YtlelfifbmckhgaaTys
import Derived.Test.YtlelfifbmckhgaaDat
import Derived.Test.YtlelfifbmckhgaaGkeep
import Derived.Test.YtlelfifbmckhgaaGpaths
import Derived.Test.YtlelfifbmckhgaaGslices
namespace Go.Proofs.Ytlelfifbmckhgaa
open Go Go.Proofs.Ytlelfifbmckhgaa.Sx
set_option linter.unusedVariables false
set_option linter.unusedSimpArgs false
def weirkeep_PathsMenger_B2 (r5 : (List (List Int))) (r9 : (List Int)) (k23 : Nat) : Nat → Nat → Option (Nat) := fun k31 n26 =>
 (slices_Contains_int_F r9 ((r5.getD k23 []).getD k31 (0 : Int))).bind fun r33 =>
 if r33 = true then
  ck (InI (((n26 : Nat) : Int) + 1)) <|
  some (n26 + 1)
 else
  some n26
def weirkeep_PathsMenger_B1 (r5 : (List (List Int))) (r9 : (List Int)) : Nat → Unit → Option (Ct (Unit) (Bool)) := fun k23 _ =>
 (forN (weirkeep_PathsMenger_B2 r5 r9 k23) ((r5.getD k23 []).length) 0 0).bind fun n30 =>
 if ((n30 : Nat) : Int) ≠ 1 then
  some (.ret false)
 else
  some (.go ())
def weirkeep_PathsMenger_F (n : Net) : Option (Bool) :=
 (weirkeep_ways_F).bind fun r2 =>
 if (!r2) = true then
  some false
 else
  (paths_Apart_F n).bind fun (r5, r7) =>
  (paths_Bar_F n).bind fun (r9, r11) =>
  if r7 ≠ 0 then
   if r7 = r11 then
    ck (InI (((r5.length : Nat) : Int) + ((r9.length : Nat) : Int))) <|
    some (decide ((((r5.length + r9.length) : Nat) : Int) = 0))
   else
    some false
  else
   if r11 ≠ 0 then
    if r7 = r11 then
     ck (InI (((r5.length : Nat) : Int) + ((r9.length : Nat) : Int))) <|
     some (decide ((((r5.length + r9.length) : Nat) : Int) = 0))
    else
     some false
   else
    (forC (weirkeep_PathsMenger_B1 r5 r9) r5.length 0 ()).bind fun q => match q with
    | .go _ =>
     some (decide (((r5.length : Nat) : Int) = ((r9.length : Nat) : Int)))
    | .ret x => some x
def weirkeep_PathsMenger_P (out : Bool) (d : D) (H : List HL) : Prop := d = .v (.bool out) ∧ H = []
theorem weirkeep_PathsMenger_I (out : Bool) : IndepP (weirkeep_PathsMenger_P out) := IndepP.of (by rintro _ _ ⟨rfl, rfl⟩; exact ⟨inferInstance, inferInstance⟩)
set_option maxRecDepth 100000 in
set_option maxHeartbeats 4000000 in
theorem weirkeep_PathsMenger_spec (n : Net) {out : Bool} (H : weirkeep_PathsMenger_F n = some out) : Does Try.prog 8 [.ag 4 (nth [.v (.int .i64 n.n), .v (.int .i64 n.s), .v (.int .i64 n.t), slD n.as])] [] (weirkeep_PathsMenger_P out) := by
 unfold weirkeep_PathsMenger_F at H
 refine Does.intro Try.func8 rfl Try.ntmps8 rfl fun w0 I0 => ?_
 refine GoC.seq ?_
 refine GoC.region ?_
 refine GoO.effB (ef_boxAg rfl rfl) (fun β1 => ?_)
 refine GoO.pure (ps_assign rfl rfl) ?_
 refine GoO.nil ?_
 refine GoK.code ?_
 refine GoC.seq ?_
 refine GoC.seq ?_
 refine GoC.region ?_
 have hb := bind_l H; clear H
 obtain ⟨r2, e3, H⟩ := hb
 refine GoO.effC (ef_call rfl (Take.nil _) (Take.nil _) (weirkeep_ways_spec e3) (LendL.nil) rfl (weirkeep_ways_I (r2))) (fun rr HH hp => ?_)
 obtain ⟨rfl, rfl⟩ := hp
 refine GoO.pure (ps_not rfl rfl) ?_
 refine GoO.nil ?_
 refine GoK.code ?_
 refine GoC.cond rfl (fun h4 => ?_) (fun h4 => ?_)
 replace H := itb_t h4 H
 refine GoC.seq ?_
 refine GoC.region ?_
 refine GoO.pure (ps_assign rfl rfl) ?_
 refine GoO.nil ?_
 refine GoK.code ?_
 obtain rfl := Option.some.inj H
 exact GoC.retL (ds := [.v (.bool false)]) Try.results8 (ResL.cons (ResD.tmp rfl) (ResL.nil)) (Take.nil _) ⟨rfl, rfl⟩
 replace H := itb_f h4 H
 refine GoC.skip ?_
 refine GoK.code ?_
 refine GoC.seq ?_
 refine GoC.region ?_
 refine GoO.pure (ps_loadAg rfl At.p0 At.p0 Nat.zero_lt_one rfl rfl) ?_
 have hb := bind_l H; clear H
 obtain ⟨⟨r5, r7⟩, e8, H⟩ := hb
 refine GoO.callF rfl (Take.nil _) (Take.nil _) (paths_Apart_spec n e8) (LendL.cons (Lend.agA ⟨⟨⟨⟨trivial, Lend.refl _ _⟩, Lend.refl _ _⟩, Lend.refl _ _⟩, Lend.refl _ _⟩) (LendL.nil)) rfl no_fps (fun rr HH hp => ?_)
 obtain ⟨β6, rfl, rfl⟩ := hp
 refine GoO.pure (ps_move rfl rfl) ?_
 refine GoO.pure (ps_extract rfl rfl rfl) ?_
 refine GoO.pure (ps_extract rfl rfl rfl) ?_
 refine GoO.pure (ps_assign rfl rfl) ?_
 refine GoO.pure (ps_assign rfl rfl) ?_
 refine GoO.nil ?_
 refine GoK.code ?_
 refine GoC.seq ?_
 refine GoC.region ?_
 refine GoO.pure (ps_loadAg rfl At.p1 At.p1 Nat.zero_lt_one rfl rfl) ?_
 have hb := bind_l H; clear H
 obtain ⟨⟨r9, r11⟩, e12, H⟩ := hb
 refine GoO.effC (ef_call rfl (Take.nil _) (Take.nil _) (paths_Bar_spec n e12) (LendL.cons (Lend.agA ⟨⟨⟨⟨trivial, Lend.refl _ _⟩, Lend.refl _ _⟩, Lend.refl _ _⟩, Lend.refl _ _⟩) (LendL.nil)) rfl (paths_Bar_I (r9, r11))) (fun rr HH hp => ?_)
 obtain ⟨β10, rfl, rfl⟩ := hp
 refine GoO.pure (ps_move rfl rfl) ?_
 refine GoO.pure (ps_extract rfl rfl rfl) ?_
 refine GoO.pure (ps_extract rfl rfl rfl) ?_
 refine GoO.pure (ps_assign rfl rfl) ?_
 refine GoO.pure (ps_assign rfl rfl) ?_
 refine GoO.nil ?_
 refine GoK.code ?_
 refine GoC.seq ?_
 refine GoC.seq ?_
 refine GoC.region ?_
 refine GoO.pure (ps_move rfl rfl) ?_
 refine GoO.pure (ps_neq rfl rfl rfl) ?_
 refine GoO.pure (ps_move rfl rfl) ?_
 refine GoO.guardE rfl rfl rfl rfl (fun h13 => ?_) (fun h13 => ?_)
 replace H := ite_f h13 H
 refine GoO.pure (ps_move rfl rfl) ?_
 refine GoO.guardT rfl rfl rfl ?_
 refine GoO.pure (ps_neq rfl rfl rfl) ?_
 refine GoO.pure (ps_pickF rfl rfl rfl) ?_
 refine GoO.nil ?_
 refine GoK.code ?_
 refine GoC.condD rfl (fun h14 => ?_) (fun h14 => ?_)
 replace H := ite_t h14 H
 refine GoC.seq ?_
 refine GoC.region ?_
 refine GoO.pure (ps_move rfl rfl) ?_
 refine GoO.pure (ps_move rfl rfl) ?_
 refine GoO.pure (ps_eql rfl rfl rfl) ?_
 refine GoO.pure (ps_move rfl rfl) ?_
 refine GoO.guardD rfl rfl rfl rfl (fun h15 => ?_) (fun h15 => ?_)
 replace H := ite_t h15 H
 refine GoO.pure (ps_move rfl rfl) ?_
 refine GoO.guardT rfl rfl rfl ?_
 refine GoO.pure (ps_len rfl (by constructor) rfl) ?_
 refine GoO.lenLe (n := r5.length) (x := .tmp 34) rfl (by constructor) own_lenLe (fun ml16 => ?_)
 refine GoO.guardT rfl rfl rfl ?_
 refine GoO.pure (ps_move rfl rfl) ?_
 refine GoO.guardT rfl rfl rfl ?_
 refine GoO.pure (ps_len rfl (by constructor) rfl) ?_
 refine GoO.lenLe (n := r9.length) (x := .tmp 36) rfl (by constructor) own_lenLe (fun ml17 => ?_)
 refine GoO.guardT rfl rfl rfl ?_
 have c18 := ck_l H; replace H := ck_r H
 refine GoO.pure (ps_add rfl rfl rfl c18) ?_
 refine GoO.guardT rfl rfl rfl ?_
 refine GoO.pure (ps_eql rfl rfl rfl) ?_
 refine GoO.pure (ps_pickT rfl rfl rfl) ?_
 refine GoO.pure (ps_assign rfl rfl) ?_
 refine GoO.nil ?_
 refine GoK.code ?_
 obtain rfl := Option.some.inj H
 exact GoC.retL (ds := [.v (.bool (decide ((((r5.length + r9.length) : Nat) : Int) = 0)))]) Try.results8 (ResL.cons (ResD.tmp rfl) (ResL.nil)) (Take.nil _) ⟨rfl, rfl⟩
 replace H := ite_f h15 H
 refine GoO.guardF rfl rfl rfl rfl ?_
 refine GoO.guardF rfl rfl rfl rfl ?_
 refine GoO.guardF rfl rfl rfl rfl ?_
 refine GoO.guardF rfl rfl rfl rfl ?_
 refine GoO.guardF rfl rfl rfl rfl ?_
 refine GoO.pure (ps_pickF rfl rfl rfl) ?_
 refine GoO.pure (ps_assign rfl rfl) ?_
 refine GoO.nil ?_
 refine GoK.code ?_
 obtain rfl := Option.some.inj H
 exact GoC.retL (ds := [.v (.bool false)]) Try.results8 (ResL.cons (ResD.tmp rfl) (ResL.nil)) (Take.nil _) ⟨rfl, rfl⟩
 replace H := ite_f h14 H
 refine GoC.skip ?_
 refine GoK.code ?_
 refine GoC.seq ?_
 refine GoC.seq ?_
 refine GoC.region ?_
 refine GoO.pure (ps_move rfl rfl) ?_
 refine GoO.pure (ps_len rfl (by constructor) rfl) ?_
 refine GoO.lenLe (n := r5.length) (x := .tmp 41) rfl (by constructor) own_lenLe (fun ml19 => ?_)
 refine GoO.pure (ps_move rfl rfl) ?_
 refine GoO.nil ?_
 refine GoK.code ?_
 have hb := bind_l H; clear H
 obtain ⟨q22, hl39, HK20⟩ := hb
 refine GoC.blockJ [(3, .own β6 1 0 r5.length), (5, .own β10 1 0 r9.length)] [.one β10 3 1 (row r9), .one β6 22 1 (row r5), .one β1 36 4 (st1 (nth [.v (.int .i64 n.n), .v (.int .i64 n.s), .v (.int .i64 n.t), slD n.as]))] (fun v h => q22 = .go () ∧ v = [] ∧ h = []) ?_ ?_
 refine GoC.loopJ [(3, _), (5, _), (41, _), (42, _)] [.one β10 3 1 (row r9), .one β6 22 1 (row r5), .one β1 36 4 (st1 (nth [.v (.int .i64 n.n), .v (.int .i64 n.s), .v (.int .i64 n.t), slD n.as]))] (fun m v h => ∃ (k23 : Nat), (k23 + m = r5.length ∧ forC (weirkeep_PathsMenger_B1 r5 r9) m k23 () = some q22) ∧ v = [(43, .v (.int .i64 ((k23 : Nat) : Int)))] ∧ h = []) r5.length ⟨_, ⟨by omega, hl39⟩, rfl, rfl⟩ (EnvD.eq rfl (EnvD.eq rfl (EnvD.eq rfl (EnvD.eq rfl (EnvD.eq rfl (EnvD.nil)))))) (TkD.cons _ _ _ _ _ Rem.p0 (HLe.refl _) (TkD.cons _ _ _ _ _ Rem.p0 (HLe.refl _) (TkD.cons _ _ _ _ _ Rem.p0 (HLe.st ⟨⟨⟨⟨trivial, DLe.refl _⟩, DLe.refl _⟩, DLe.refl _⟩, DLe.refl _⟩) (TkD.nil _)))) ?_
 rintro m24 v h ⟨k23, ⟨hkk23, hF21⟩, rfl, rfl⟩
 refine GoC.seq ?_
 refine GoC.region ?_
 refine GoO.pure (ps_lss rfl rfl rfl) ?_
 refine GoO.nil ?_
 refine GoK.code ?_
 refine GoC.seq ?_
 refine GoC.condD rfl (fun (hk23 : (k23 : Int) < ((r5.length : Nat) : Int)) => ?_) (fun (hk23 : ¬ (k23 : Int) < ((r5.length : Nat) : Int)) => ?_)
 obtain ⟨m24', rfl⟩ : ∃ x, m24 = x + 1 := ⟨m24 - 1, by omega⟩
 have hb := bind_l hF21; clear hF21
 obtain ⟨qrm24, H, hF21⟩ := hb
 have hnk23 : k23 < r5.length := by omega
 have hIk23 : InI ((k23 : Int) + 1) := inI_len hk23 ml19
 refine GoC.skip ?_
 refine GoK.code ?_
 refine GoC.seq ?_
 refine GoC.block ?_
 refine GoC.seq ?_
 refine GoC.region ?_
 refine GoO.pure (ps_indexAddr0N rfl rfl hnk23 rfl) ?_
 refine GoO.pure (ps_load rfl At.p1 At.p1 hnk23 rfl rfl) ?_
 refine GoO.pure (ps_assign rfl rfl) ?_
 refine GoO.nil ?_
 refine GoK.code ?_
 refine GoC.seq ?_
 refine GoC.region ?_
 refine GoO.pure (ps_assign rfl rfl) ?_
 refine GoO.nil ?_
 refine GoK.code ?_
 refine GoC.seq ?_
 refine GoC.seq ?_
 refine GoC.region ?_
 refine GoO.pure (ps_move rfl rfl) ?_
 refine GoO.pure (ps_len rfl (by constructor) rfl) ?_
 refine GoO.lenLe (n := (r5.getD k23 []).length) (x := .tmp 47) rfl (by constructor) sl_lenLe (fun ml25 => ?_)
 refine GoO.pure (ps_move rfl rfl) ?_
 refine GoO.nil ?_
 refine GoK.code ?_
 have hb := bind_l H; clear H
 obtain ⟨n30, hl37, HK27⟩ := hb
 refine GoC.blockJ [(3, .own β6 1 0 r5.length), (5, .own β10 1 0 r9.length), (41, .own β6 1 0 r5.length), (42, .v (.int .i64 ((r5.length : Nat) : Int))), (43, .v (.int .i64 ((k23 : Nat) : Int)))] [.one β10 3 1 (row r9), .one β6 22 1 (row r5), .one β1 36 4 (st1 (nth [.v (.int .i64 n.n), .v (.int .i64 n.s), .v (.int .i64 n.t), slD n.as]))] (fun v h => v = [(9, .v (.int .i64 ((n30 : Nat) : Int)))] ∧ h = []) ?_ ?_
 refine GoC.loopJ [(3, _), (5, _), (41, _), (42, _), (43, _), (47, _), (48, _)] [.one β10 3 1 (row r9), .one β6 22 1 (row r5), .one β1 36 4 (st1 (nth [.v (.int .i64 n.n), .v (.int .i64 n.s), .v (.int .i64 n.t), slD n.as]))] (fun m v h => ∃ (k31 : Nat) (n26 : Nat), (k31 + m = (r5.getD k23 []).length ∧ forN (weirkeep_PathsMenger_B2 r5 r9 k23) m k31 n26 = some n30) ∧ v = [(49, .v (.int .i64 ((k31 : Nat) : Int))), (9, .v (.int .i64 ((n26 : Nat) : Int)))] ∧ h = []) ((r5.getD k23 []).length) ⟨_, _, ⟨by omega, hl37⟩, rfl, rfl⟩ (EnvD.eq rfl (EnvD.eq rfl (EnvD.eq rfl (EnvD.eq rfl (EnvD.eq rfl (EnvD.eq rfl (EnvD.eq rfl (EnvD.eq rfl (EnvD.eq rfl (EnvD.nil)))))))))) (TkD.cons _ _ _ _ _ Rem.p0 (HLe.refl _) (TkD.cons _ _ _ _ _ Rem.p0 (HLe.refl _) (TkD.cons _ _ _ _ _ Rem.p0 (HLe.st ⟨⟨⟨⟨trivial, DLe.refl _⟩, DLe.refl _⟩, DLe.refl _⟩, DLe.refl _⟩) (TkD.nil _)))) ?_
 rintro m32 v h ⟨k31, n26, ⟨hkk31, hF28⟩, rfl, rfl⟩
 refine GoC.seq ?_
 refine GoC.region ?_
 refine GoO.pure (ps_lss rfl rfl rfl) ?_
 refine GoO.nil ?_
 refine GoK.code ?_
 refine GoC.seq ?_
 refine GoC.condD rfl (fun (hk31 : (k31 : Int) < (((r5.getD k23 []).length : Nat) : Int)) => ?_) (fun (hk31 : ¬ (k31 : Int) < (((r5.getD k23 []).length : Nat) : Int)) => ?_)
 obtain ⟨m32', rfl⟩ : ∃ x, m32 = x + 1 := ⟨m32 - 1, by omega⟩
 have hb := bind_l hF28; clear hF28
 obtain ⟨qrm32, H, hF28⟩ := hb
 have hnk31 : k31 < (r5.getD k23 []).length := by omega
 have hIk31 : InI ((k31 : Int) + 1) := inI_len hk31 ml25
 refine GoC.skip ?_
 refine GoK.code ?_
 refine GoC.seq ?_
 refine GoC.block ?_
 refine GoC.seq ?_
 refine GoC.region ?_
 refine GoO.pure (ps_indexAddrRN rfl rfl hnk31 rfl) ?_
 refine GoO.pure (ps_loadR rfl hnk31 rfl rfl) ?_
 refine GoO.pure (ps_assign rfl rfl) ?_
 refine GoO.nil ?_
 refine GoK.code ?_
 refine GoC.seq ?_
 refine GoC.region ?_
 refine GoO.pure (ps_move rfl rfl) ?_
 refine GoO.pure (ps_move rfl rfl) ?_
 have hb := bind_l H; clear H
 obtain ⟨r33, e34, H⟩ := hb
 refine GoO.effC (ef_call rfl (Take.nil _) (Take.cons _ _ _ _ _ Rem.p0 (Take.nil _)) (slices_Contains_int_spec r9 ((r5.getD k23 []).getD k31 (0 : Int)) e34) (LendL.cons (Lend.all' At.p0 (by first | rfl | omega | (simp only [subl_length, cpl_length, List.length_set, List.length_append, List.length_cons, List.length_nil, List.length_replicate, row_len] <;> first | rfl | omega)) rfl) (LendL.cons (Lend.refl _ _) (LendL.nil))) rfl (slices_Contains_int_I (r33))) (fun rr HH hp => ?_)
 obtain ⟨rfl, rfl⟩ := hp
 refine GoO.nil ?_
 refine GoK.code ?_
 refine GoC.cond rfl (fun h35 => ?_) (fun h35 => ?_)
 replace H := itb_t h35 H
 refine GoC.region ?_
 refine GoO.pure (ps_move rfl rfl) ?_
 have c36 := ck_l H; replace H := ck_r H
 refine GoO.pure (ps_add rfl rfl rfl c36) ?_
 refine GoO.pure (ps_assign rfl rfl) ?_
 refine GoO.nil ?_
 refine GoK.blk ?_
 refine GoK.code ?_
 refine GoC.region ?_
 refine GoO.pure (ps_add rfl rfl rfl hIk31) ?_
 refine GoO.pure (ps_move rfl rfl) ?_
 refine GoO.nil ?_
 obtain rfl := Option.some.inj H
 exact GoK.againJ m32' (by omega) ⟨_, _, ⟨by omega, hF28⟩, rfl, rfl⟩ (EnvD.eq rfl (EnvD.eq rfl (EnvD.eq rfl (EnvD.eq rfl (EnvD.eq rfl (EnvD.eq rfl (EnvD.eq rfl (EnvD.eq rfl (EnvD.eq rfl (EnvD.nil)))))))))) (TkD.cons _ _ _ _ _ Rem.p0 (HLe.refl _) (TkD.cons _ _ _ _ _ Rem.p0 (HLe.refl _) (TkD.cons _ _ _ _ _ Rem.p0 (HLe.st ⟨⟨⟨⟨trivial, DLe.refl _⟩, DLe.refl _⟩, DLe.refl _⟩, DLe.refl _⟩) (TkD.nil _))))
 replace H := itb_f h35 H
 refine GoC.skip ?_
 refine GoK.blk ?_
 refine GoK.code ?_
 refine GoC.region ?_
 refine GoO.pure (ps_add rfl rfl rfl hIk31) ?_
 refine GoO.pure (ps_move rfl rfl) ?_
 refine GoO.nil ?_
 obtain rfl := Option.some.inj H
 exact GoK.againJ m32' (by omega) ⟨_, _, ⟨by omega, hF28⟩, rfl, rfl⟩ (EnvD.eq rfl (EnvD.eq rfl (EnvD.eq rfl (EnvD.eq rfl (EnvD.eq rfl (EnvD.eq rfl (EnvD.eq rfl (EnvD.eq rfl (EnvD.eq rfl (EnvD.nil)))))))))) (TkD.cons _ _ _ _ _ Rem.p0 (HLe.refl _) (TkD.cons _ _ _ _ _ Rem.p0 (HLe.refl _) (TkD.cons _ _ _ _ _ Rem.p0 (HLe.st ⟨⟨⟨⟨trivial, DLe.refl _⟩, DLe.refl _⟩, DLe.refl _⟩, DLe.refl _⟩) (TkD.nil _))))
 obtain rfl : m32 = 0 := by omega
 refine GoC.exit rfl ?_
 cases hF28
 exact GoK.meet ⟨rfl, rfl⟩ (EnvD.eq rfl (EnvD.eq rfl (EnvD.eq rfl (EnvD.eq rfl (EnvD.eq rfl (EnvD.eq rfl (EnvD.nil))))))) (TkD.cons _ _ _ _ _ Rem.p0 (HLe.refl _) (TkD.cons _ _ _ _ _ Rem.p0 (HLe.refl _) (TkD.cons _ _ _ _ _ Rem.p0 (HLe.st ⟨⟨⟨⟨trivial, DLe.refl _⟩, DLe.refl _⟩, DLe.refl _⟩, DLe.refl _⟩) (TkD.nil _))))
 rintro v h ⟨rfl, rfl⟩
 have H := HK27; clear HK27
 refine GoK.code ?_
 refine GoC.seq ?_
 refine GoC.region ?_
 refine GoO.pure (ps_move rfl rfl) ?_
 refine GoO.pure (ps_neq rfl rfl rfl) ?_
 refine GoO.nil ?_
 refine GoK.code ?_
 refine GoC.condD rfl (fun h38 => ?_) (fun h38 => ?_)
 replace H := ite_t h38 H
 refine GoC.seq ?_
 refine GoC.region ?_
 refine GoO.pure (ps_assign rfl rfl) ?_
 refine GoO.nil ?_
 refine GoK.code ?_
 obtain rfl := Option.some.inj H
 obtain rfl := Option.some.inj hF21
 obtain rfl := Option.some.inj HK20
 exact GoC.retL (ds := [.v (.bool false)]) Try.results8 (ResL.cons (ResD.tmp rfl) (ResL.nil)) (Take.nil _) ⟨rfl, rfl⟩
 replace H := ite_f h38 H
 refine GoC.skip ?_
 refine GoK.blk ?_
 refine GoK.code ?_
 refine GoC.region ?_
 refine GoO.pure (ps_add rfl rfl rfl hIk23) ?_
 refine GoO.pure (ps_move rfl rfl) ?_
 refine GoO.nil ?_
 obtain rfl := Option.some.inj H
 exact GoK.againJ m24' (by omega) ⟨_, ⟨by omega, hF21⟩, rfl, rfl⟩ (EnvD.eq rfl (EnvD.eq rfl (EnvD.eq rfl (EnvD.eq rfl (EnvD.eq rfl (EnvD.nil)))))) (TkD.cons _ _ _ _ _ Rem.p0 (HLe.refl _) (TkD.cons _ _ _ _ _ Rem.p0 (HLe.refl _) (TkD.cons _ _ _ _ _ Rem.p0 (HLe.st ⟨⟨⟨⟨trivial, DLe.refl _⟩, DLe.refl _⟩, DLe.refl _⟩, DLe.refl _⟩) (TkD.nil _))))
 obtain rfl : m24 = 0 := by omega
 refine GoC.exit rfl ?_
 cases hF21
 exact GoK.meet ⟨rfl, rfl, rfl⟩ (EnvD.eq rfl (EnvD.eq rfl (EnvD.nil))) (TkD.cons _ _ _ _ _ Rem.p0 (HLe.refl _) (TkD.cons _ _ _ _ _ Rem.p0 (HLe.refl _) (TkD.cons _ _ _ _ _ Rem.p0 (HLe.st ⟨⟨⟨⟨trivial, DLe.refl _⟩, DLe.refl _⟩, DLe.refl _⟩, DLe.refl _⟩) (TkD.nil _))))
 rintro v h ⟨rfl, rfl, rfl⟩
 have H := HK20; clear HK20
 refine GoK.code ?_
 refine GoC.seq ?_
 refine GoC.region ?_
 refine GoO.pure (ps_move rfl rfl) ?_
 refine GoO.pure (ps_len rfl (by constructor) rfl) ?_
 refine GoO.pure (ps_move rfl rfl) ?_
 refine GoO.pure (ps_len rfl (by constructor) rfl) ?_
 refine GoO.lenLe (n := r9.length) (x := .tmp 64) rfl (by constructor) own_lenLe (fun ml40 => ?_)
 refine GoO.pure (ps_eql rfl rfl rfl) ?_
 refine GoO.pure (ps_assign rfl rfl) ?_
 refine GoO.nil ?_
 refine GoK.code ?_
 obtain rfl := Option.some.inj H
 exact GoC.retL (ds := [.v (.bool (decide (((r5.length : Nat) : Int) = ((r9.length : Nat) : Int))))]) Try.results8 (ResL.cons (ResD.tmp rfl) (ResL.nil)) (Take.nil _) ⟨rfl, rfl⟩
 replace H := ite_t h13 H
 refine GoO.guardF rfl rfl rfl rfl ?_
 refine GoO.pure (ps_pickT rfl rfl rfl) ?_
 refine GoO.nil ?_
 refine GoK.code ?_
 refine GoC.condT rfl ?_
 refine GoC.seq ?_
 refine GoC.region ?_
 refine GoO.pure (ps_move rfl rfl) ?_
 refine GoO.pure (ps_move rfl rfl) ?_
 refine GoO.pure (ps_eql rfl rfl rfl) ?_
 refine GoO.pure (ps_move rfl rfl) ?_
 refine GoO.guardD rfl rfl rfl rfl (fun h41 => ?_) (fun h41 => ?_)
 replace H := ite_t h41 H
 refine GoO.pure (ps_move rfl rfl) ?_
 refine GoO.guardT rfl rfl rfl ?_
 refine GoO.pure (ps_len rfl (by constructor) rfl) ?_
 refine GoO.lenLe (n := r5.length) (x := .tmp 34) rfl (by constructor) own_lenLe (fun ml42 => ?_)
 refine GoO.guardT rfl rfl rfl ?_
 refine GoO.pure (ps_move rfl rfl) ?_
 refine GoO.guardT rfl rfl rfl ?_
 refine GoO.pure (ps_len rfl (by constructor) rfl) ?_
 refine GoO.lenLe (n := r9.length) (x := .tmp 36) rfl (by constructor) own_lenLe (fun ml43 => ?_)
 refine GoO.guardT rfl rfl rfl ?_
 have c44 := ck_l H; replace H := ck_r H
 refine GoO.pure (ps_add rfl rfl rfl c44) ?_
 refine GoO.guardT rfl rfl rfl ?_
 refine GoO.pure (ps_eql rfl rfl rfl) ?_
 refine GoO.pure (ps_pickT rfl rfl rfl) ?_
 refine GoO.pure (ps_assign rfl rfl) ?_
 refine GoO.nil ?_
 refine GoK.code ?_
 obtain rfl := Option.some.inj H
 exact GoC.retL (ds := [.v (.bool (decide ((((r5.length + r9.length) : Nat) : Int) = 0)))]) Try.results8 (ResL.cons (ResD.tmp rfl) (ResL.nil)) (Take.nil _) ⟨rfl, rfl⟩
 replace H := ite_f h41 H
 refine GoO.guardF rfl rfl rfl rfl ?_
 refine GoO.guardF rfl rfl rfl rfl ?_
 refine GoO.guardF rfl rfl rfl rfl ?_
 refine GoO.guardF rfl rfl rfl rfl ?_
 refine GoO.guardF rfl rfl rfl rfl ?_
 refine GoO.pure (ps_pickF rfl rfl rfl) ?_
 refine GoO.pure (ps_assign rfl rfl) ?_
 refine GoO.nil ?_
 refine GoK.code ?_
 obtain rfl := Option.some.inj H
 exact GoC.retL (ds := [.v (.bool false)]) Try.results8 (ResL.cons (ResD.tmp rfl) (ResL.nil)) (Take.nil _) ⟨rfl, rfl⟩

end Go.Proofs.Ytlelfifbmckhgaa
