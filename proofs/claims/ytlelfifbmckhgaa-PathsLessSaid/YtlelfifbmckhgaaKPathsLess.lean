/- The functions weirkeep.PathsLess, told as plain functions, and that the code does as they say. -/
import Derived.Test.YtlelfifbmckhgaaTys
import Derived.Test.YtlelfifbmckhgaaDat
import Derived.Test.YtlelfifbmckhgaaGkeep
import Derived.Test.YtlelfifbmckhgaaGpaths
import Derived.Test.YtlelfifbmckhgaaGslices
namespace Go.Proofs.Ytlelfifbmckhgaa
open Go Go.Proofs.Ytlelfifbmckhgaa.Sx
set_option linter.unusedVariables false
set_option linter.unusedSimpArgs false
def weirkeep_PathsLess_F (n : Net) (k : Int) : Option (Bool) :=
 (weirkeep_ways_F).bind fun r2 =>
 if (!r2) = true then
  some false
 else
  (paths_Apart_F n).bind fun (r5, r7) =>
  if r7 ≠ 0 then
   if r7 = 0 then
    some true
   else
    some (decide (((r5.length : Nat) : Int) = 0))
  else
   if k < 0 then
    if r7 = 0 then
     some true
    else
     some (decide (((r5.length : Nat) : Int) = 0))
   else
    if ((n.as.length : Nat) : Int) ≤ k then
     if r7 = 0 then
      some true
     else
      some (decide (((r5.length : Nat) : Int) = 0))
    else
     ck (0 ≤ k) <|
     ck (k.toNat ≤ n.as.length) <|
     ck (InI (k + 1)) <|
     ck (0 ≤ (k + 1)) <|
     ck ((k + 1).toNat ≤ n.as.length) <|
     (slices_Concat_Arc_F ([(subl n.as 0 k.toNat), (subl n.as ((k + 1).toNat) (n.as.length - (k + 1).toNat))] : List (List Arc))).bind fun r21 =>
     (paths_Apart_F (⟨n.n, n.s, n.t, r21⟩ : Net)).bind fun (r24, r26) =>
     (weirkeep_turned_F n).bind fun r28 =>
     (paths_Apart_F r28).bind fun (r31, r33) =>
     if r26 = 0 then
      if r33 = 0 then
       if ((r24.length : Nat) : Int) ≤ ((r5.length : Nat) : Int) then
        ck (InI (((r24.length : Nat) : Int) + 1)) <|
        if ((r5.length : Nat) : Int) ≤ (((r24.length + 1) : Nat) : Int) then
         some (decide (((r31.length : Nat) : Int) = ((r5.length : Nat) : Int)))
        else
         some false
       else
        some false
      else
       some false
     else
      some false
def weirkeep_PathsLess_P (out : Bool) (d : D) (H : List HL) : Prop := d = .v (.bool out) ∧ H = []
theorem weirkeep_PathsLess_I (out : Bool) : IndepP (weirkeep_PathsLess_P out) := IndepP.of (by rintro _ _ ⟨rfl, rfl⟩; exact ⟨inferInstance, inferInstance⟩)
set_option maxRecDepth 100000 in
set_option maxHeartbeats 4000000 in
theorem weirkeep_PathsLess_spec (n : Net) (k : Int) {out : Bool} (H : weirkeep_PathsLess_F n k = some out) : Does Try.prog 7 [.ag 4 (nth [.v (.int .i64 n.n), .v (.int .i64 n.s), .v (.int .i64 n.t), slD n.as]), .v (.int .i64 k)] [] (weirkeep_PathsLess_P out) := by
 unfold weirkeep_PathsLess_F at H
 refine Does.intro Try.func7 rfl Try.ntmps7 rfl fun w0 I0 => ?_
 refine GoC.seq ?_
 refine GoC.region ?_
 refine GoO.effB (ef_boxAg rfl rfl) (fun β1 => ?_)
 refine GoO.pure (ps_assign rfl rfl) ?_
 refine GoO.nil ?_
 refine GoK.code ?_
 refine GoC.seq ?_
 refine GoC.seq ?_
 refine GoC.region ?_
 have hb := bind_l H; clear H
 obtain ⟨r2, e3, H⟩ := hb
 refine GoO.effC (ef_call rfl (Take.nil _) (Take.nil _) (weirkeep_ways_spec e3) (LendL.nil) rfl (weirkeep_ways_I (r2))) (fun rr HH hp => ?_)
 obtain ⟨rfl, rfl⟩ := hp
 refine GoO.pure (ps_not rfl rfl) ?_
 refine GoO.nil ?_
 refine GoK.code ?_
 refine GoC.cond rfl (fun h4 => ?_) (fun h4 => ?_)
 replace H := itb_t h4 H
 refine GoC.seq ?_
 refine GoC.region ?_
 refine GoO.pure (ps_assign rfl rfl) ?_
 refine GoO.nil ?_
 refine GoK.code ?_
 obtain rfl := Option.some.inj H
 exact GoC.retL (ds := [.v (.bool false)]) Try.results7 (ResL.cons (ResD.tmp rfl) (ResL.nil)) (Take.nil _) ⟨rfl, rfl⟩
 replace H := itb_f h4 H
 refine GoC.skip ?_
 refine GoK.code ?_
 refine GoC.seq ?_
 refine GoC.region ?_
 refine GoO.pure (ps_loadAg rfl At.p0 At.p0 Nat.zero_lt_one rfl rfl) ?_
 have hb := bind_l H; clear H
 obtain ⟨⟨r5, r7⟩, e8, H⟩ := hb
 refine GoO.callF rfl (Take.nil _) (Take.nil _) (paths_Apart_spec n e8) (LendL.cons (Lend.agA ⟨⟨⟨⟨trivial, Lend.refl _ _⟩, Lend.refl _ _⟩, Lend.refl _ _⟩, Lend.refl _ _⟩) (LendL.nil)) rfl no_fps (fun rr HH hp => ?_)
 obtain ⟨β6, rfl, rfl⟩ := hp
 refine GoO.pure (ps_move rfl rfl) ?_
 refine GoO.pure (ps_extract rfl rfl rfl) ?_
 refine GoO.pure (ps_extract rfl rfl rfl) ?_
 refine GoO.pure (ps_assign rfl rfl) ?_
 refine GoO.pure (ps_assign rfl rfl) ?_
 refine GoO.nil ?_
 refine GoK.code ?_
 refine GoC.seq ?_
 refine GoC.seq ?_
 refine GoC.region ?_
 refine GoO.pure (ps_move rfl rfl) ?_
 refine GoO.pure (ps_neq rfl rfl rfl) ?_
 refine GoO.pure (ps_move rfl rfl) ?_
 refine GoO.guardE rfl rfl rfl rfl (fun h9 => ?_) (fun h9 => ?_)
 replace H := ite_f h9 H
 refine GoO.pure (ps_move rfl rfl) ?_
 refine GoO.guardT rfl rfl rfl ?_
 refine GoO.pure (ps_lss rfl rfl rfl) ?_
 refine GoO.pure (ps_pickF rfl rfl rfl) ?_
 refine GoO.pure (ps_move rfl rfl) ?_
 refine GoO.guardE rfl rfl rfl rfl (fun h10 => ?_) (fun h10 => ?_)
 replace H := ite_f h10 H
 refine GoO.pure (ps_move rfl rfl) ?_
 refine GoO.guardT rfl rfl rfl ?_
 refine GoO.pure (ps_fieldAddr rfl rfl) ?_
 refine GoO.guardT rfl rfl rfl ?_
 refine GoO.pure (ps_load rfl At.p1 At.p1 Nat.zero_lt_one rfl rfl) ?_
 refine GoO.guardT rfl rfl rfl ?_
 refine GoO.pure (ps_len rfl (by constructor) rfl) ?_
 refine GoO.lenLe (n := n.as.length) (x := .tmp 27) rfl (by constructor) sl_lenLe (fun ml11 => ?_)
 refine GoO.guardT rfl rfl rfl ?_
 refine GoO.pure (ps_geq rfl rfl rfl) ?_
 refine GoO.pure (ps_pickF rfl rfl rfl) ?_
 refine GoO.nil ?_
 refine GoK.code ?_
 refine GoC.condD rfl (fun h12 => ?_) (fun h12 => ?_)
 replace H := ite_t h12 H
 refine GoC.seq ?_
 refine GoC.region ?_
 refine GoO.pure (ps_move rfl rfl) ?_
 refine GoO.pure (ps_eql rfl rfl rfl) ?_
 refine GoO.pure (ps_move rfl rfl) ?_
 refine GoO.guardE rfl rfl rfl rfl (fun h13 => ?_) (fun h13 => ?_)
 replace H := ite_f h13 H
 refine GoO.pure (ps_move rfl rfl) ?_
 refine GoO.guardT rfl rfl rfl ?_
 refine GoO.pure (ps_len rfl (by constructor) rfl) ?_
 refine GoO.lenLe (n := r5.length) (x := .tmp 34) rfl (by constructor) own_lenLe (fun ml14 => ?_)
 refine GoO.guardT rfl rfl rfl ?_
 refine GoO.pure (ps_eql rfl rfl rfl) ?_
 refine GoO.pure (ps_pickF rfl rfl rfl) ?_
 refine GoO.pure (ps_assign rfl rfl) ?_
 refine GoO.nil ?_
 refine GoK.code ?_
 obtain rfl := Option.some.inj H
 exact GoC.retL (ds := [.v (.bool (decide (((r5.length : Nat) : Int) = 0)))]) Try.results7 (ResL.cons (ResD.tmp rfl) (ResL.nil)) (Take.nil _) ⟨rfl, rfl⟩
 replace H := ite_t h13 H
 refine GoO.guardF rfl rfl rfl rfl ?_
 refine GoO.guardF rfl rfl rfl rfl ?_
 refine GoO.pure (ps_pickT rfl rfl rfl) ?_
 refine GoO.pure (ps_assign rfl rfl) ?_
 refine GoO.nil ?_
 refine GoK.code ?_
 obtain rfl := Option.some.inj H
 exact GoC.retL (ds := [.v (.bool true)]) Try.results7 (ResL.cons (ResD.tmp rfl) (ResL.nil)) (Take.nil _) ⟨rfl, rfl⟩
 replace H := ite_f h12 H
 refine GoC.skip ?_
 refine GoK.code ?_
 refine GoC.seq ?_
 refine GoC.drawA (.q 0 (.q 1 (.q 2 (.q 3 (.q 4 (.q 5 (.q 6 (.q 7 (.q 8 (.q 9 (.q 10 (.q 11 (.q 12 (.q 13 (.q 14 (.one 15 (.one 16 (.q 17 (.one 18 (.q 19 (.q 20 (.q 21 (.q 22 (.q 23 (.done))))))))))))))))))))))))) follows (by kernel_rfl) ?_
 refine GoP.qN rfl (ps_fieldAddr rfl rfl) ?_
 refine GoP.qN rfl (ps_load rfl At.p1 At.p1 Nat.zero_lt_one rfl rfl) ?_
 refine GoP.qN rfl (ps_fieldAddr rfl rfl) ?_
 refine GoP.qN rfl (ps_load rfl At.p1 At.p1 Nat.zero_lt_one rfl rfl) ?_
 refine GoP.qN rfl (ps_fieldAddr rfl rfl) ?_
 refine GoP.qN rfl (ps_load rfl At.p1 At.p1 Nat.zero_lt_one rfl rfl) ?_
 refine GoP.qN rfl (ps_fieldAddr rfl rfl) ?_
 refine GoP.qN rfl (ps_load rfl At.p1 At.p1 Nat.zero_lt_one rfl rfl) ?_
 refine GoP.qN rfl (ps_move rfl rfl) ?_
 have c15 := ck_l H; replace H := ck_r H
 have c16 := ck_l H; replace H := ck_r H
 refine GoP.qN rfl (ps_sliceR rfl (Bd.no _) (Bd.int _ _ _ _ rfl c15) (Nat.zero_le _) c16 rfl) ?_
 refine GoP.leD (Le.re 48 rfl (DLe.part (xs := n.as) (r := 0) (len := k.toNat) (by have := c16; first | omega | (simp only [subl_length, cpl_length, List.length_set, List.length_append, List.length_cons, List.length_nil, List.length_replicate, row_len]; omega)))) ?_
 refine GoP.qN rfl (ps_fieldAddr rfl rfl) ?_
 refine GoP.qN rfl (ps_load rfl At.p1 At.p1 Nat.zero_lt_one rfl rfl) ?_
 refine GoP.qN rfl (ps_move rfl rfl) ?_
 have c17 := ck_l H; replace H := ck_r H
 refine GoP.qN rfl (ps_add rfl rfl rfl c17) ?_
 have c18 := ck_l H; replace H := ck_r H
 have c19 := ck_l H; replace H := ck_r H
 refine GoP.qN rfl (ps_sliceR rfl (Bd.int _ _ _ _ rfl c18) (Bd.no _) c19 (Nat.le_refl _) rfl) ?_
 refine GoP.leD (Le.re 53 rfl (DLe.part (xs := n.as) (r := (k + 1).toNat) (len := n.as.length - (k + 1).toNat) (by have := c19; first | omega | (simp only [subl_length, cpl_length, List.length_set, List.length_append, List.length_cons, List.length_nil, List.length_replicate, row_len]; omega)))) ?_
 refine GoP.oneB rfl trivial (ef_buildSlice (row ([(subl n.as 0 k.toNat), (subl n.as ((k + 1).toNat) (n.as.length - (k + 1).toNat))] : List (List Arc))) rfl (Parts.cons _ _ _ _ _ _ _ _ ⟨rfl, rfl⟩ (Part.one _ rfl rfl) rfl rfl (Parts.cons _ _ _ _ _ _ _ _ ⟨rfl, rfl⟩ (Part.one _ rfl rfl) rfl rfl (Parts.nil _))) rfl rfl rfl rfl) (Take.cons _ _ _ _ _ Rem.p0 (Take.cons _ _ _ _ _ Rem.p0 (Take.nil _))) (fun β20 => ?_)
 have hb := bind_l H; clear H
 obtain ⟨r21, e23, H⟩ := hb
 refine GoP.oneC rfl trivial (ef_call rfl (Take.nil _) (Take.cons _ _ _ _ _ Rem.p0 (Take.nil _)) (slices_Concat_Arc_spec ([(subl n.as 0 k.toNat), (subl n.as ((k + 1).toNat) (n.as.length - (k + 1).toNat))] : List (List Arc)) e23) (LendL.cons (Lend.all' At.p0 (by first | rfl | omega | (simp only [subl_length, cpl_length, List.length_set, List.length_append, List.length_cons, List.length_nil, List.length_replicate, row_len] <;> first | rfl | omega)) rfl) (LendL.nil)) rfl (slices_Concat_Arc_I (r21))) (Take.cons _ _ _ _ _ Rem.p1 (Take.cons _ _ _ _ _ Rem.p1 (Take.nil _))) (fun rr HH hp => ?_)
 obtain ⟨β22, rfl, rfl⟩ := hp
 refine GoP.qN rfl (ps_build (Parts.cons _ _ _ _ _ _ _ _ FdP.of (Part.one _ rfl rfl) rfl rfl (Parts.cons _ _ _ _ _ _ _ _ FdP.of (Part.one _ rfl rfl) rfl rfl (Parts.cons _ _ _ _ _ _ _ _ FdP.of (Part.one _ rfl rfl) rfl rfl (Parts.cons _ _ _ _ _ _ _ _ FdP.of (Part.one _ rfl rfl) rfl rfl (Parts.nil _))))) rfl) ?_
 have hb := bind_l H; clear H
 obtain ⟨⟨r24, r26⟩, e27, H⟩ := hb
 refine GoP.oneCF rfl rfl (Take.nil _) (Take.cons _ _ _ _ _ Rem.p0 (Take.nil _)) (paths_Apart_spec (⟨n.n, n.s, n.t, r21⟩ : Net) e27) (LendL.cons (Lend.agA ⟨⟨⟨⟨trivial, Lend.refl _ _⟩, Lend.refl _ _⟩, Lend.refl _ _⟩, Lend.all' At.p0 (by first | rfl | omega | (simp only [subl_length, cpl_length, List.length_set, List.length_append, List.length_cons, List.length_nil, List.length_replicate, row_len] <;> first | rfl | omega)) rfl⟩) (LendL.nil)) rfl no_fps (Take.cons _ _ _ _ _ Rem.p2 (Take.cons _ _ _ _ _ Rem.p2 (Take.nil _))) (fun rr HH hp => ?_)
 obtain ⟨β25, rfl, rfl⟩ := hp
 refine GoV.qN rfl (pv_move rfl rfl) ?_
 refine GoV.qN rfl (pv_extract rfl rfl rfl) ?_
 refine GoV.qN rfl (pv_extract rfl rfl rfl) ?_
 refine GoV.qN rfl (pv_assign rfl rfl) ?_
 refine GoV.qN rfl (pv_assign rfl rfl) ?_
 refine GoV.done ?_
 refine GoK.code ?_
 refine GoC.seq ?_
 refine GoC.region ?_
 refine GoO.pure (ps_loadAg rfl At.p3 At.p3 Nat.zero_lt_one rfl rfl) ?_
 have hb := bind_l H; clear H
 obtain ⟨r28, e30, H⟩ := hb
 refine GoO.effC (ef_call rfl (Take.nil _) (Take.nil _) (weirkeep_turned_spec n e30) (LendL.cons (Lend.agA ⟨⟨⟨⟨trivial, Lend.refl _ _⟩, Lend.refl _ _⟩, Lend.refl _ _⟩, Lend.refl _ _⟩) (LendL.nil)) rfl (weirkeep_turned_I (r28))) (fun rr HH hp => ?_)
 obtain ⟨β29, rfl, rfl⟩ := hp
 have hb := bind_l H; clear H
 obtain ⟨⟨r31, r33⟩, e34, H⟩ := hb
 refine GoO.callF rfl (Take.nil _) (Take.cons _ _ _ _ _ Rem.p0 (Take.nil _)) (paths_Apart_spec r28 e34) (LendL.cons (Lend.agA ⟨⟨⟨⟨trivial, Lend.refl _ _⟩, Lend.refl _ _⟩, Lend.refl _ _⟩, Lend.all' At.p0 (by first | rfl | omega | (simp only [subl_length, cpl_length, List.length_set, List.length_append, List.length_cons, List.length_nil, List.length_replicate, row_len] <;> first | rfl | omega)) rfl⟩) (LendL.nil)) rfl no_fps (fun rr HH hp => ?_)
 obtain ⟨β32, rfl, rfl⟩ := hp
 refine GoO.pure (ps_move rfl rfl) ?_
 refine GoO.pure (ps_extract rfl rfl rfl) ?_
 refine GoO.pure (ps_extract rfl rfl rfl) ?_
 refine GoO.pure (ps_assign rfl rfl) ?_
 refine GoO.pure (ps_assign rfl rfl) ?_
 refine GoO.nil ?_
 refine GoK.code ?_
 refine GoC.seq ?_
 refine GoC.region ?_
 refine GoO.pure (ps_move rfl rfl) ?_
 refine GoO.pure (ps_eql rfl rfl rfl) ?_
 refine GoO.pure (ps_move rfl rfl) ?_
 refine GoO.guardD rfl rfl rfl rfl (fun h35 => ?_) (fun h35 => ?_)
 replace H := ite_t h35 H
 refine GoO.pure (ps_move rfl rfl) ?_
 refine GoO.guardT rfl rfl rfl ?_
 refine GoO.pure (ps_eql rfl rfl rfl) ?_
 refine GoO.pure (ps_pickT rfl rfl rfl) ?_
 refine GoO.pure (ps_move rfl rfl) ?_
 refine GoO.guardD rfl rfl rfl rfl (fun h36 => ?_) (fun h36 => ?_)
 replace H := ite_t h36 H
 refine GoO.pure (ps_move rfl rfl) ?_
 refine GoO.guardT rfl rfl rfl ?_
 refine GoO.pure (ps_len rfl (by constructor) rfl) ?_
 refine GoO.lenLe (n := r24.length) (x := .tmp 73) rfl (by constructor) own_lenLe (fun ml37 => ?_)
 refine GoO.guardT rfl rfl rfl ?_
 refine GoO.pure (ps_move rfl rfl) ?_
 refine GoO.guardT rfl rfl rfl ?_
 refine GoO.pure (ps_len rfl (by constructor) rfl) ?_
 refine GoO.lenLe (n := r5.length) (x := .tmp 75) rfl (by constructor) own_lenLe (fun ml38 => ?_)
 refine GoO.guardT rfl rfl rfl ?_
 refine GoO.pure (ps_leq rfl rfl rfl) ?_
 refine GoO.pure (ps_pickT rfl rfl rfl) ?_
 refine GoO.pure (ps_move rfl rfl) ?_
 refine GoO.guardD rfl rfl rfl rfl (fun h39 => ?_) (fun h39 => ?_)
 replace H := ite_t h39 H
 refine GoO.pure (ps_move rfl rfl) ?_
 refine GoO.guardT rfl rfl rfl ?_
 refine GoO.pure (ps_len rfl (by constructor) rfl) ?_
 refine GoO.guardT rfl rfl rfl ?_
 refine GoO.pure (ps_move rfl rfl) ?_
 refine GoO.guardT rfl rfl rfl ?_
 refine GoO.pure (ps_len rfl (by constructor) rfl) ?_
 refine GoO.guardT rfl rfl rfl ?_
 have c40 := ck_l H; replace H := ck_r H
 refine GoO.pure (ps_add rfl rfl rfl c40) ?_
 refine GoO.guardT rfl rfl rfl ?_
 refine GoO.pure (ps_leq rfl rfl rfl) ?_
 refine GoO.pure (ps_pickT rfl rfl rfl) ?_
 refine GoO.pure (ps_move rfl rfl) ?_
 refine GoO.guardD rfl rfl rfl rfl (fun h41 => ?_) (fun h41 => ?_)
 replace H := ite_t h41 H
 refine GoO.pure (ps_move rfl rfl) ?_
 refine GoO.guardT rfl rfl rfl ?_
 refine GoO.pure (ps_len rfl (by constructor) rfl) ?_
 refine GoO.lenLe (n := r31.length) (x := .tmp 88) rfl (by constructor) own_lenLe (fun ml42 => ?_)
 refine GoO.guardT rfl rfl rfl ?_
 refine GoO.pure (ps_move rfl rfl) ?_
 refine GoO.guardT rfl rfl rfl ?_
 refine GoO.pure (ps_len rfl (by constructor) rfl) ?_
 refine GoO.guardT rfl rfl rfl ?_
 refine GoO.pure (ps_eql rfl rfl rfl) ?_
 refine GoO.pure (ps_pickT rfl rfl rfl) ?_
 refine GoO.pure (ps_assign rfl rfl) ?_
 refine GoO.nil ?_
 refine GoK.code ?_
 obtain rfl := Option.some.inj H
 exact GoC.retL (ds := [.v (.bool (decide (((r31.length : Nat) : Int) = ((r5.length : Nat) : Int))))]) Try.results7 (ResL.cons (ResD.tmp rfl) (ResL.nil)) (Take.nil _) ⟨rfl, rfl⟩
 replace H := ite_f h41 H
 refine GoO.guardF rfl rfl rfl rfl ?_
 refine GoO.guardF rfl rfl rfl rfl ?_
 refine GoO.guardF rfl rfl rfl rfl ?_
 refine GoO.guardF rfl rfl rfl rfl ?_
 refine GoO.pure (ps_pickF rfl rfl rfl) ?_
 refine GoO.pure (ps_assign rfl rfl) ?_
 refine GoO.nil ?_
 refine GoK.code ?_
 obtain rfl := Option.some.inj H
 exact GoC.retL (ds := [.v (.bool false)]) Try.results7 (ResL.cons (ResD.tmp rfl) (ResL.nil)) (Take.nil _) ⟨rfl, rfl⟩
 replace H := ite_f h39 H
 refine GoO.guardF rfl rfl rfl rfl ?_
 refine GoO.guardF rfl rfl rfl rfl ?_
 refine GoO.guardF rfl rfl rfl rfl ?_
 refine GoO.guardF rfl rfl rfl rfl ?_
 refine GoO.guardF rfl rfl rfl rfl ?_
 refine GoO.pure (ps_pickF rfl rfl rfl) ?_
 refine GoO.pure (ps_move rfl rfl) ?_
 refine GoO.guardF rfl rfl rfl rfl ?_
 refine GoO.guardF rfl rfl rfl rfl ?_
 refine GoO.guardF rfl rfl rfl rfl ?_
 refine GoO.guardF rfl rfl rfl rfl ?_
 refine GoO.guardF rfl rfl rfl rfl ?_
 refine GoO.pure (ps_pickF rfl rfl rfl) ?_
 refine GoO.pure (ps_assign rfl rfl) ?_
 refine GoO.nil ?_
 refine GoK.code ?_
 obtain rfl := Option.some.inj H
 exact GoC.retL (ds := [.v (.bool false)]) Try.results7 (ResL.cons (ResD.tmp rfl) (ResL.nil)) (Take.nil _) ⟨rfl, rfl⟩
 replace H := ite_f h36 H
 refine GoO.guardF rfl rfl rfl rfl ?_
 refine GoO.guardF rfl rfl rfl rfl ?_
 refine GoO.guardF rfl rfl rfl rfl ?_
 refine GoO.guardF rfl rfl rfl rfl ?_
 refine GoO.pure (ps_pickF rfl rfl rfl) ?_
 refine GoO.pure (ps_move rfl rfl) ?_
 refine GoO.guardF rfl rfl rfl rfl ?_
 refine GoO.guardF rfl rfl rfl rfl ?_
 refine GoO.guardF rfl rfl rfl rfl ?_
 refine GoO.guardF rfl rfl rfl rfl ?_
 refine GoO.guardF rfl rfl rfl rfl ?_
 refine GoO.guardF rfl rfl rfl rfl ?_
 refine GoO.pure (ps_pickF rfl rfl rfl) ?_
 refine GoO.pure (ps_move rfl rfl) ?_
 refine GoO.guardF rfl rfl rfl rfl ?_
 refine GoO.guardF rfl rfl rfl rfl ?_
 refine GoO.guardF rfl rfl rfl rfl ?_
 refine GoO.guardF rfl rfl rfl rfl ?_
 refine GoO.guardF rfl rfl rfl rfl ?_
 refine GoO.pure (ps_pickF rfl rfl rfl) ?_
 refine GoO.pure (ps_assign rfl rfl) ?_
 refine GoO.nil ?_
 refine GoK.code ?_
 obtain rfl := Option.some.inj H
 exact GoC.retL (ds := [.v (.bool false)]) Try.results7 (ResL.cons (ResD.tmp rfl) (ResL.nil)) (Take.nil _) ⟨rfl, rfl⟩
 replace H := ite_f h35 H
 refine GoO.guardF rfl rfl rfl rfl ?_
 refine GoO.pure (ps_pickF rfl rfl rfl) ?_
 refine GoO.pure (ps_move rfl rfl) ?_
 refine GoO.guardF rfl rfl rfl rfl ?_
 refine GoO.guardF rfl rfl rfl rfl ?_
 refine GoO.guardF rfl rfl rfl rfl ?_
 refine GoO.guardF rfl rfl rfl rfl ?_
 refine GoO.guardF rfl rfl rfl rfl ?_
 refine GoO.pure (ps_pickF rfl rfl rfl) ?_
 refine GoO.pure (ps_move rfl rfl) ?_
 refine GoO.guardF rfl rfl rfl rfl ?_
 refine GoO.guardF rfl rfl rfl rfl ?_
 refine GoO.guardF rfl rfl rfl rfl ?_
 refine GoO.guardF rfl rfl rfl rfl ?_
 refine GoO.guardF rfl rfl rfl rfl ?_
 refine GoO.guardF rfl rfl rfl rfl ?_
 refine GoO.pure (ps_pickF rfl rfl rfl) ?_
 refine GoO.pure (ps_move rfl rfl) ?_
 refine GoO.guardF rfl rfl rfl rfl ?_
 refine GoO.guardF rfl rfl rfl rfl ?_
 refine GoO.guardF rfl rfl rfl rfl ?_
 refine GoO.guardF rfl rfl rfl rfl ?_
 refine GoO.guardF rfl rfl rfl rfl ?_
 refine GoO.pure (ps_pickF rfl rfl rfl) ?_
 refine GoO.pure (ps_assign rfl rfl) ?_
 refine GoO.nil ?_
 refine GoK.code ?_
 obtain rfl := Option.some.inj H
 exact GoC.retL (ds := [.v (.bool false)]) Try.results7 (ResL.cons (ResD.tmp rfl) (ResL.nil)) (Take.nil _) ⟨rfl, rfl⟩
 replace H := ite_t h10 H
 refine GoO.guardF rfl rfl rfl rfl ?_
 refine GoO.guardF rfl rfl rfl rfl ?_
 refine GoO.guardF rfl rfl rfl rfl ?_
 refine GoO.guardF rfl rfl rfl rfl ?_
 refine GoO.pure (ps_pickT rfl rfl rfl) ?_
 refine GoO.nil ?_
 refine GoK.code ?_
 refine GoC.condT rfl ?_
 refine GoC.seq ?_
 refine GoC.region ?_
 refine GoO.pure (ps_move rfl rfl) ?_
 refine GoO.pure (ps_eql rfl rfl rfl) ?_
 refine GoO.pure (ps_move rfl rfl) ?_
 refine GoO.guardE rfl rfl rfl rfl (fun h43 => ?_) (fun h43 => ?_)
 replace H := ite_f h43 H
 refine GoO.pure (ps_move rfl rfl) ?_
 refine GoO.guardT rfl rfl rfl ?_
 refine GoO.pure (ps_len rfl (by constructor) rfl) ?_
 refine GoO.lenLe (n := r5.length) (x := .tmp 34) rfl (by constructor) own_lenLe (fun ml44 => ?_)
 refine GoO.guardT rfl rfl rfl ?_
 refine GoO.pure (ps_eql rfl rfl rfl) ?_
 refine GoO.pure (ps_pickF rfl rfl rfl) ?_
 refine GoO.pure (ps_assign rfl rfl) ?_
 refine GoO.nil ?_
 refine GoK.code ?_
 obtain rfl := Option.some.inj H
 exact GoC.retL (ds := [.v (.bool (decide (((r5.length : Nat) : Int) = 0)))]) Try.results7 (ResL.cons (ResD.tmp rfl) (ResL.nil)) (Take.nil _) ⟨rfl, rfl⟩
 replace H := ite_t h43 H
 refine GoO.guardF rfl rfl rfl rfl ?_
 refine GoO.guardF rfl rfl rfl rfl ?_
 refine GoO.pure (ps_pickT rfl rfl rfl) ?_
 refine GoO.pure (ps_assign rfl rfl) ?_
 refine GoO.nil ?_
 refine GoK.code ?_
 obtain rfl := Option.some.inj H
 exact GoC.retL (ds := [.v (.bool true)]) Try.results7 (ResL.cons (ResD.tmp rfl) (ResL.nil)) (Take.nil _) ⟨rfl, rfl⟩
 replace H := ite_t h9 H
 refine GoO.guardF rfl rfl rfl rfl ?_
 refine GoO.pure (ps_pickT rfl rfl rfl) ?_
 refine GoO.pure (ps_move rfl rfl) ?_
 refine GoO.guardF rfl rfl rfl rfl ?_
 refine GoO.guardF rfl rfl rfl rfl ?_
 refine GoO.guardF rfl rfl rfl rfl ?_
 refine GoO.guardF rfl rfl rfl rfl ?_
 refine GoO.guardF rfl rfl rfl rfl ?_
 refine GoO.pure (ps_pickT rfl rfl rfl) ?_
 refine GoO.nil ?_
 refine GoK.code ?_
 refine GoC.condT rfl ?_
 refine GoC.seq ?_
 refine GoC.region ?_
 refine GoO.pure (ps_move rfl rfl) ?_
 refine GoO.pure (ps_eql rfl rfl rfl) ?_
 refine GoO.pure (ps_move rfl rfl) ?_
 refine GoO.guardE rfl rfl rfl rfl (fun h45 => ?_) (fun h45 => ?_)
 replace H := ite_f h45 H
 refine GoO.pure (ps_move rfl rfl) ?_
 refine GoO.guardT rfl rfl rfl ?_
 refine GoO.pure (ps_len rfl (by constructor) rfl) ?_
 refine GoO.lenLe (n := r5.length) (x := .tmp 34) rfl (by constructor) own_lenLe (fun ml46 => ?_)
 refine GoO.guardT rfl rfl rfl ?_
 refine GoO.pure (ps_eql rfl rfl rfl) ?_
 refine GoO.pure (ps_pickF rfl rfl rfl) ?_
 refine GoO.pure (ps_assign rfl rfl) ?_
 refine GoO.nil ?_
 refine GoK.code ?_
 obtain rfl := Option.some.inj H
 exact GoC.retL (ds := [.v (.bool (decide (((r5.length : Nat) : Int) = 0)))]) Try.results7 (ResL.cons (ResD.tmp rfl) (ResL.nil)) (Take.nil _) ⟨rfl, rfl⟩
 replace H := ite_t h45 H
 refine GoO.guardF rfl rfl rfl rfl ?_
 refine GoO.guardF rfl rfl rfl rfl ?_
 refine GoO.pure (ps_pickT rfl rfl rfl) ?_
 refine GoO.pure (ps_assign rfl rfl) ?_
 refine GoO.nil ?_
 refine GoK.code ?_
 obtain rfl := Option.some.inj H
 exact GoC.retL (ds := [.v (.bool true)]) Try.results7 (ResL.cons (ResD.tmp rfl) (ResL.nil)) (Take.nil _) ⟨rfl, rfl⟩

end Go.Proofs.Ytlelfifbmckhgaa
