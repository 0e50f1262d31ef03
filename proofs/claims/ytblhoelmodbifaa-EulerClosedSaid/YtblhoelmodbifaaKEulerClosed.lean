/- The functions weirkeep.EulerClosed, told as plain functions, and that the code does as they say. -/
import Derived.Test.YtblhoelmodbifaaTys
import Derived.Test.YtblhoelmodbifaaDat
import Derived.Test.YtblhoelmodbifaaGeuler
import Derived.Test.YtblhoelmodbifaaGkeep
import Derived.Test.YtblhoelmodbifaaGslices
namespace Go.Proofs.Ytblhoelmodbifaa
open Go Go.Proofs.Ytblhoelmodbifaa.Sx
set_option linter.unusedVariables false
set_option linter.unusedSimpArgs false
def weirkeep_EulerClosed_F (g : Graph) : Option (Bool) :=
 (weirkeep_rounds_F).bind fun r2 =>
 if (!r2) = true then
  some false
 else
  (euler_Can_F g).bind fun (r5, r6) =>
  (euler_Trail_F g).bind fun (r8, r10) =>
  if r10 ≠ 0 then
   if r10 = 0 then
    some true
   else
    some (decide (((r8.length : Nat) : Int) = 0))
  else
   if ((r8.length : Nat) : Int) = 0 then
    if r10 = 0 then
     some true
    else
     some (decide (((r8.length : Nat) : Int) = 0))
   else
    if ((g.as.length : Nat) : Int) = 60 then
     if r10 = 0 then
      some true
     else
      some (decide (((r8.length : Nat) : Int) = 0))
    else
     ck (0 < r8.length) <|
     ck (InI (((r8.length : Nat) : Int) - 1)) <|
     ck (0 ≤ (((r8.length : Nat) : Int) - 1) ∧ (((r8.length : Nat) : Int) - 1) < ((r8.length : Nat) : Int)) <|
     if (min (r8.getD 0 (0 : Int)) (r8.getD ((((r8.length : Nat) : Int) - 1).toNat) (0 : Int))) < 0 then
      some false
     else
      if ((g.as.length : Nat) : Int) ≤ (max (r8.getD 0 (0 : Int)) (r8.getD ((((r8.length : Nat) : Int) - 1).toNat) (0 : Int))) then
       some false
      else
       ck (0 ≤ (r8.getD ((((r8.length : Nat) : Int) - 1).toNat) (0 : Int)) ∧ (r8.getD ((((r8.length : Nat) : Int) - 1).toNat) (0 : Int)) < ((g.as.length : Nat) : Int)) <|
       ck (0 ≤ (r8.getD 0 (0 : Int)) ∧ (r8.getD 0 (0 : Int)) < ((g.as.length : Nat) : Int)) <|
       (slices_Clone_Arc_F g.as).bind fun r25 =>
       ck (r25.length + 1 ≤ 5864062014805) <|
       (euler_Can_F (⟨g.n, (r25 ++ ([(⟨(g.as.getD ((r8.getD ((((r8.length : Nat) : Int) - 1).toNat) (0 : Int)).toNat) El.d).t, (g.as.getD ((r8.getD 0 (0 : Int)).toNat) El.d).f, 0⟩ : Arc)] : List Arc))⟩ : Graph)).bind fun (r63, r64) =>
       if r64 = 0 then
        if r63 = 2 then
         some (decide ((decide (r5 = 2)) = (decide (((g.as.getD ((r8.getD ((((r8.length : Nat) : Int) - 1).toNat) (0 : Int)).toNat) El.d).t) = ((g.as.getD ((r8.getD 0 (0 : Int)).toNat) El.d).f)))))
        else
         some false
       else
        some false
def weirkeep_EulerClosed_P (out : Bool) (d : D) (H : List HL) : Prop := d = .v (.bool out) ∧ H = []
theorem weirkeep_EulerClosed_I (out : Bool) : IndepP (weirkeep_EulerClosed_P out) := IndepP.of (by rintro _ _ ⟨rfl, rfl⟩; exact ⟨inferInstance, inferInstance⟩)
set_option maxRecDepth 100000 in
set_option maxHeartbeats 4000000 in
theorem weirkeep_EulerClosed_spec (g : Graph) {out : Bool} (H : weirkeep_EulerClosed_F g = some out) : Does Try.prog 9 [.ag 2 (nth [.v (.int .i64 g.n), slD g.as])] [] (weirkeep_EulerClosed_P out) := by
 unfold weirkeep_EulerClosed_F at H
 refine Does.intro Try.func9 rfl Try.ntmps9 rfl fun w0 I0 => ?_
 refine GoC.seq ?_
 refine GoC.region ?_
 refine GoO.effB (ef_boxAg rfl rfl) (fun β1 => ?_)
 refine GoO.pure (ps_assign rfl rfl) ?_
 refine GoO.nil ?_
 refine GoK.code ?_
 refine GoC.seq ?_
 refine GoC.seq ?_
 refine GoC.region ?_
 have hb := bind_l H; clear H
 obtain ⟨r2, e3, H⟩ := hb
 refine GoO.effC (ef_call rfl (Take.nil _) (Take.nil _) (weirkeep_rounds_spec e3) (LendL.nil) rfl (weirkeep_rounds_I (r2))) (fun rr HH hp => ?_)
 obtain ⟨rfl, rfl⟩ := hp
 refine GoO.pure (ps_not rfl rfl) ?_
 refine GoO.nil ?_
 refine GoK.code ?_
 refine GoC.cond rfl (fun h4 => ?_) (fun h4 => ?_)
 replace H := itb_t h4 H
 refine GoC.seq ?_
 refine GoC.region ?_
 refine GoO.pure (ps_assign rfl rfl) ?_
 refine GoO.nil ?_
 refine GoK.code ?_
 obtain rfl := Option.some.inj H
 exact GoC.retL (ds := [.v (.bool false)]) Try.results9 (ResL.cons (ResD.tmp rfl) (ResL.nil)) (Take.nil _) ⟨rfl, rfl⟩
 replace H := itb_f h4 H
 refine GoC.skip ?_
 refine GoK.code ?_
 refine GoC.seq ?_
 refine GoC.region ?_
 refine GoO.pure (ps_loadAg rfl At.p0 At.p0 Nat.zero_lt_one rfl rfl) ?_
 have hb := bind_l H; clear H
 obtain ⟨⟨r5, r6⟩, e7, H⟩ := hb
 refine GoO.effC (ef_call rfl (Take.nil _) (Take.nil _) (euler_Can_spec g e7) (LendL.cons (Lend.agA ⟨⟨trivial, Lend.refl _ _⟩, Lend.refl _ _⟩) (LendL.nil)) rfl (euler_Can_I (r5, r6))) (fun rr HH hp => ?_)
 obtain ⟨rfl, rfl⟩ := hp
 refine GoO.pure (ps_move rfl rfl) ?_
 refine GoO.pure (ps_extract rfl rfl rfl) ?_
 refine GoO.pure (ps_extract rfl rfl rfl) ?_
 refine GoO.pure (ps_assign rfl rfl) ?_
 refine GoO.pure (ps_assign rfl rfl) ?_
 refine GoO.nil ?_
 refine GoK.code ?_
 refine GoC.seq ?_
 refine GoC.region ?_
 refine GoO.pure (ps_loadAg rfl At.p0 At.p0 Nat.zero_lt_one rfl rfl) ?_
 have hb := bind_l H; clear H
 obtain ⟨⟨r8, r10⟩, e11, H⟩ := hb
 refine GoO.effC (ef_call rfl (Take.nil _) (Take.nil _) (euler_Trail_spec g e11) (LendL.cons (Lend.agA ⟨⟨trivial, Lend.refl _ _⟩, Lend.refl _ _⟩) (LendL.nil)) rfl (euler_Trail_I (r8, r10))) (fun rr HH hp => ?_)
 obtain ⟨β9, rfl, rfl⟩ := hp
 refine GoO.pure (ps_move rfl rfl) ?_
 refine GoO.pure (ps_extract rfl rfl rfl) ?_
 refine GoO.pure (ps_extract rfl rfl rfl) ?_
 refine GoO.pure (ps_assign rfl rfl) ?_
 refine GoO.pure (ps_assign rfl rfl) ?_
 refine GoO.nil ?_
 refine GoK.code ?_
 refine GoC.seq ?_
 refine GoC.seq ?_
 refine GoC.region ?_
 refine GoO.pure (ps_move rfl rfl) ?_
 refine GoO.pure (ps_neq rfl rfl rfl) ?_
 refine GoO.pure (ps_move rfl rfl) ?_
 refine GoO.guardE rfl rfl rfl rfl (fun h12 => ?_) (fun h12 => ?_)
 replace H := ite_f h12 H
 refine GoO.pure (ps_move rfl rfl) ?_
 refine GoO.guardT rfl rfl rfl ?_
 refine GoO.pure (ps_len rfl (by constructor) rfl) ?_
 refine GoO.lenLe (n := r8.length) (x := .tmp 27) rfl (by constructor) own_lenLe (fun ml13 => ?_)
 refine GoO.guardT rfl rfl rfl ?_
 refine GoO.pure (ps_eql rfl rfl rfl) ?_
 refine GoO.pure (ps_pickF rfl rfl rfl) ?_
 refine GoO.pure (ps_move rfl rfl) ?_
 refine GoO.guardE rfl rfl rfl rfl (fun h14 => ?_) (fun h14 => ?_)
 replace H := ite_f h14 H
 refine GoO.pure (ps_fieldAddr rfl rfl) ?_
 refine GoO.guardT rfl rfl rfl ?_
 refine GoO.pure (ps_load rfl At.p1 At.p1 Nat.zero_lt_one rfl rfl) ?_
 refine GoO.guardT rfl rfl rfl ?_
 refine GoO.pure (ps_len rfl (by constructor) rfl) ?_
 refine GoO.lenLe (n := g.as.length) (x := .tmp 33) rfl (by constructor) sl_lenLe (fun ml15 => ?_)
 refine GoO.guardT rfl rfl rfl ?_
 refine GoO.pure (ps_eql rfl rfl rfl) ?_
 refine GoO.pure (ps_pickF rfl rfl rfl) ?_
 refine GoO.nil ?_
 refine GoK.code ?_
 refine GoC.condD rfl (fun h16 => ?_) (fun h16 => ?_)
 replace H := ite_t h16 H
 refine GoC.seq ?_
 refine GoC.region ?_
 refine GoO.pure (ps_move rfl rfl) ?_
 refine GoO.pure (ps_eql rfl rfl rfl) ?_
 refine GoO.pure (ps_move rfl rfl) ?_
 refine GoO.guardE rfl rfl rfl rfl (fun h17 => ?_) (fun h17 => ?_)
 replace H := ite_f h17 H
 refine GoO.pure (ps_move rfl rfl) ?_
 refine GoO.guardT rfl rfl rfl ?_
 refine GoO.pure (ps_len rfl (by constructor) rfl) ?_
 refine GoO.guardT rfl rfl rfl ?_
 refine GoO.pure (ps_eql rfl rfl rfl) ?_
 refine GoO.pure (ps_pickF rfl rfl rfl) ?_
 refine GoO.pure (ps_assign rfl rfl) ?_
 refine GoO.nil ?_
 refine GoK.code ?_
 obtain rfl := Option.some.inj H
 exact GoC.retL (ds := [.v (.bool (decide (((r8.length : Nat) : Int) = 0)))]) Try.results9 (ResL.cons (ResD.tmp rfl) (ResL.nil)) (Take.nil _) ⟨rfl, rfl⟩
 replace H := ite_t h17 H
 refine GoO.guardF rfl rfl rfl rfl ?_
 refine GoO.guardF rfl rfl rfl rfl ?_
 refine GoO.pure (ps_pickT rfl rfl rfl) ?_
 refine GoO.pure (ps_assign rfl rfl) ?_
 refine GoO.nil ?_
 refine GoK.code ?_
 obtain rfl := Option.some.inj H
 exact GoC.retL (ds := [.v (.bool true)]) Try.results9 (ResL.cons (ResD.tmp rfl) (ResL.nil)) (Take.nil _) ⟨rfl, rfl⟩
 replace H := ite_f h16 H
 refine GoC.skip ?_
 refine GoK.code ?_
 refine GoC.seq ?_
 refine GoC.drawA (.q 0 (.q 1 (.q 2 (.q 3 (.q 4 (.q 5 (.q 6 (.q 7 (.q 8 (.q 9 (.q 10 (.done)))))))))))) follows (by kernel_rfl) ?_
 refine GoP.qN rfl (ps_move rfl rfl) ?_
 have c18 := ck_l H; replace H := ck_r H
 refine GoP.qN rfl (ps_indexAddr0N (i := 0) rfl rfl c18 rfl) ?_
 refine GoP.qN rfl (ps_load rfl At.p0 At.p0 c18 rfl rfl) ?_
 refine GoP.qN rfl (ps_move rfl rfl) ?_
 refine GoP.qN rfl (ps_move rfl rfl) ?_
 refine GoP.qN rfl (ps_len rfl (by constructor) rfl) ?_
 have c19 := ck_l H; replace H := ck_r H
 refine GoP.qN rfl (ps_sub rfl rfl rfl c19) ?_
 have c20 := ck_l H; replace H := ck_r H
 refine GoP.qN rfl (ps_indexAddr0 rfl rfl c20 rfl) ?_
 refine GoP.qN rfl (ps_load rfl At.p0 At.p0 (idx_lt c20) rfl rfl) ?_
 refine GoP.qN rfl (ps_assign rfl rfl) ?_
 refine GoP.qN rfl (ps_assign rfl rfl) ?_
 refine GoP.done ?_
 refine GoK.code ?_
 refine GoC.seq ?_
 refine GoC.seq ?_
 refine GoC.region ?_
 refine GoO.pure (ps_move rfl rfl) ?_
 refine GoO.pure (ps_move rfl rfl) ?_
 refine GoO.pure (ps_min rfl rfl rfl) ?_
 refine GoO.pure (ps_lss rfl rfl rfl) ?_
 refine GoO.pure (ps_move rfl rfl) ?_
 refine GoO.guardE rfl rfl rfl rfl (fun h21 => ?_) (fun h21 => ?_)
 replace H := ite_f h21 H
 refine GoO.pure (ps_move rfl rfl) ?_
 refine GoO.guardT rfl rfl rfl ?_
 refine GoO.pure (ps_move rfl rfl) ?_
 refine GoO.guardT rfl rfl rfl ?_
 refine GoO.pure (ps_max rfl rfl rfl) ?_
 refine GoO.guardT rfl rfl rfl ?_
 refine GoO.pure (ps_fieldAddr rfl rfl) ?_
 refine GoO.guardT rfl rfl rfl ?_
 refine GoO.pure (ps_load rfl At.p1 At.p1 Nat.zero_lt_one rfl rfl) ?_
 refine GoO.guardT rfl rfl rfl ?_
 refine GoO.pure (ps_len rfl (by constructor) rfl) ?_
 refine GoO.guardT rfl rfl rfl ?_
 refine GoO.pure (ps_geq rfl rfl rfl) ?_
 refine GoO.pure (ps_pickF rfl rfl rfl) ?_
 refine GoO.nil ?_
 refine GoK.code ?_
 refine GoC.condD rfl (fun h22 => ?_) (fun h22 => ?_)
 replace H := ite_t h22 H
 refine GoC.seq ?_
 refine GoC.region ?_
 refine GoO.pure (ps_assign rfl rfl) ?_
 refine GoO.nil ?_
 refine GoK.code ?_
 obtain rfl := Option.some.inj H
 exact GoC.retL (ds := [.v (.bool false)]) Try.results9 (ResL.cons (ResD.tmp rfl) (ResL.nil)) (Take.nil _) ⟨rfl, rfl⟩
 replace H := ite_f h22 H
 refine GoC.skip ?_
 refine GoK.code ?_
 refine GoC.seq ?_
 refine GoC.drawP (.q 0 (.q 1 (.q 2 (.q 3 (.q 5 (.q 6 (.q 7 (.q 8 (.q 9 (.q 10 (.q 11 (.q 12 (.q 13 (.q 14 (.q 15 (.q 16 (.q 17 (.three 4 18 21 (.two 18 21 (.two 19 21 (.q 20 (.one 21 (.one 22 (.done)))) (.one 19 (.q 20 (.one 22 (.done))))) (.one 18 (.one 19 (.q 20 (.one 22 (.done)))))) (.two 4 21 (.two 19 21 (.q 20 (.one 21 (.one 22 (.done)))) (.one 19 (.q 20 (.one 22 (.done))))) (.one 4 (.one 19 (.q 20 (.one 22 (.done)))))) (.two 4 18 (.one 18 (.one 19 (.q 20 (.one 22 (.done))))) (.one 4 (.one 19 (.q 20 (.one 22 (.done)))))))))))))))))))))))) [(1, _, _, _)] follows (by kernel_rfl) (Take.cons _ _ _ _ _ Rem.p1 (Take.nil _)) ?_
 refine GoP.qN rfl (ps_fieldAddr rfl rfl) ?_
 refine GoP.qN rfl (ps_load rfl At.p1 At.p0 Nat.zero_lt_one rfl rfl) ?_
 refine GoP.qN rfl (ps_fieldAddr rfl rfl) ?_
 refine GoP.qN rfl (ps_load rfl At.p1 At.p0 Nat.zero_lt_one rfl rfl) ?_
 refine GoP.qN rfl (ps_fieldAddr rfl rfl) ?_
 refine GoP.qN rfl (ps_load rfl At.p1 At.p0 Nat.zero_lt_one rfl rfl) ?_
 refine GoP.qN rfl (ps_move rfl rfl) ?_
 have c23 := ck_l H; replace H := ck_r H
 refine GoP.qN rfl (ps_indexAddrR rfl rfl c23 rfl) ?_
 refine GoP.qN rfl (ps_fieldAddrR rfl rfl) ?_
 refine GoP.qN rfl (ps_loadR rfl (idx_lt c23) rfl rfl) ?_
 refine GoP.qN rfl (ps_fieldAddr rfl rfl) ?_
 refine GoP.qN rfl (ps_load rfl At.p1 At.p0 Nat.zero_lt_one rfl rfl) ?_
 refine GoP.qN rfl (ps_move rfl rfl) ?_
 have c24 := ck_l H; replace H := ck_r H
 refine GoP.qN rfl (ps_indexAddrR rfl rfl c24 rfl) ?_
 refine GoP.qN rfl (ps_fieldAddrR rfl rfl) ?_
 refine GoP.qN rfl (ps_loadR rfl (idx_lt c24) rfl rfl) ?_
 refine GoP.qN rfl (ps_build (Parts.cons _ _ _ _ _ _ _ _ FdP.of (Part.one _ rfl rfl) rfl rfl (Parts.cons _ _ _ _ _ _ _ _ FdP.of (Part.one _ rfl rfl) rfl rfl (Parts.nil _))) rfl) ?_
 have hb := bind_l H; clear H
 obtain ⟨r25, e27, H⟩ := hb
 have c30 := ck_l H; replace H := ck_r H
 apply GoP.forkT4
 exact rfl
 exact rfl
 exact rfl
 exact trivial
 exact trivial
 exact trivial
 exact ef_call rfl (Take.nil _) (Take.nil _) (slices_Clone_Arc_spec g.as e27) (LendL.cons (Lend.refl _ _) (LendL.nil)) rfl (slices_Clone_Arc_I (r25))
 exact ef_buildSlice (row ([(⟨(g.as.getD ((r8.getD ((((r8.length : Nat) : Int) - 1).toNat) (0 : Int)).toNat) El.d).t, (g.as.getD ((r8.getD 0 (0 : Int)).toNat) El.d).f, 0⟩ : Arc)] : List Arc)) rfl (Parts.cons _ _ _ _ _ _ _ _ ⟨rfl, rfl⟩ (Part.ag _ _ rfl) rfl rfl (Parts.nil _)) rfl rfl rfl rfl
 exact ef_alloc rfl
 exact (Take.cons _ _ _ _ _ Rem.p1 (Take.nil _))
 exact (Take.cons _ _ _ _ _ Rem.p1 (Take.nil _))
 exact (Take.cons _ _ _ _ _ Rem.p1 (Take.nil _))
 intro hQ
 rintro _ ⟨_, _, hp, rfl⟩
 obtain ⟨β26, rfl, rfl⟩ := hp
 apply GoP.fork3
 exact rfl
 exact rfl
 exact trivial
 exact trivial
 exact ef_buildSlice (row ([(⟨(g.as.getD ((r8.getD ((((r8.length : Nat) : Int) - 1).toNat) (0 : Int)).toNat) El.d).t, (g.as.getD ((r8.getD 0 (0 : Int)).toNat) El.d).f, 0⟩ : Arc)] : List Arc)) rfl (Parts.cons _ _ _ _ _ _ _ _ ⟨rfl, rfl⟩ (Part.ag _ _ rfl) rfl rfl (Parts.nil _)) rfl rfl rfl rfl
 exact ef_alloc rfl
 exact (Take.cons _ _ _ _ _ Rem.p2 (Take.nil _))
 exact (Take.cons _ _ _ _ _ Rem.p2 (Take.nil _))
 intro hQ
 rintro _ ⟨β37, rfl⟩
 apply GoP.fork2
 exact rfl
 exact rfl
 exact trivial
 exact trivial
 exact ef_append rfl rfl Rem.p1 (Src.own At.p0 (by first | omega | (simp only [subl_length, List.length_set, List.length_append, List.length_cons, List.length_nil, List.length_replicate, row_len]; omega) | (simp only [subl_length, List.length_set, List.length_append, List.length_cons, List.length_nil, List.length_replicate, row_len]; done))) (cat_row (α := Arc) (by first | rfl | omega | (simp only [subl_length, List.length_set, List.length_append, List.length_cons, List.length_nil, List.length_replicate, row_len] <;> first | rfl | omega)) (by first | rfl | omega | (simp only [subl_length, List.length_set, List.length_append, List.length_cons, List.length_nil, List.length_replicate, row_len] <;> first | rfl | omega)) (fun _ _ _ _ => rfl)) (by first | omega | (simp only [subl_length, List.length_set, List.length_append, List.length_cons, List.length_nil, List.length_replicate, row_len]; omega) | (simp only [subl_length, List.length_set, List.length_append, List.length_cons, List.length_nil, List.length_replicate, row_len]; done)) (app_le c30 rfl) rfl rfl rfl
 exact ef_alloc rfl
 exact (Take.cons _ _ _ _ _ Rem.p1 (Take.cons _ _ _ _ _ Rem.p2 (Take.nil _)))
 exact (Take.cons _ _ _ _ _ Rem.p3 (Take.nil _))
 intro hQ
 rintro _ ⟨β41, rfl⟩
 refine GoP.qN rfl (ps_build (Parts.cons _ _ _ _ _ _ _ _ FdP.of (Part.one _ rfl rfl) rfl rfl (Parts.cons _ _ _ _ _ _ _ _ FdP.of (Part.one _ rfl rfl) rfl rfl (Parts.nil _))) rfl) ?_
 refine GoP.oneB rfl trivial (ef_alloc rfl) (Take.cons _ _ _ _ _ Rem.p3 (Take.nil _)) (fun β43 => ?_)
 refine GoP.one1 rfl trivial (ef_storeAg rfl rfl At.p0 upd_whole Nat.zero_lt_one rfl) (Take.cons _ _ _ _ _ Rem.p0 (Take.cons _ _ _ _ _ Rem.p3 (Take.nil _))) ?_
 exact GoP.done (hQ β41 β43)
 intro hQ
 rintro _ ⟨β42, rfl⟩
 refine GoP.oneB rfl trivial (ef_append rfl rfl Rem.p2 (Src.own At.p1 (by first | omega | (simp only [subl_length, List.length_set, List.length_append, List.length_cons, List.length_nil, List.length_replicate, row_len]; omega) | (simp only [subl_length, List.length_set, List.length_append, List.length_cons, List.length_nil, List.length_replicate, row_len]; done))) (cat_row (α := Arc) (by first | rfl | omega | (simp only [subl_length, List.length_set, List.length_append, List.length_cons, List.length_nil, List.length_replicate, row_len] <;> first | rfl | omega)) (by first | rfl | omega | (simp only [subl_length, List.length_set, List.length_append, List.length_cons, List.length_nil, List.length_replicate, row_len] <;> first | rfl | omega)) (fun _ _ _ _ => rfl)) (by first | omega | (simp only [subl_length, List.length_set, List.length_append, List.length_cons, List.length_nil, List.length_replicate, row_len]; omega) | (simp only [subl_length, List.length_set, List.length_append, List.length_cons, List.length_nil, List.length_replicate, row_len]; done)) (app_le c30 rfl) rfl rfl rfl) (Take.cons _ _ _ _ _ Rem.p2 (Take.cons _ _ _ _ _ Rem.p3 (Take.nil _))) (fun β44 => ?_)
 refine GoP.qN rfl (ps_build (Parts.cons _ _ _ _ _ _ _ _ FdP.of (Part.one _ rfl rfl) rfl rfl (Parts.cons _ _ _ _ _ _ _ _ FdP.of (Part.one _ rfl rfl) rfl rfl (Parts.nil _))) rfl) ?_
 refine GoP.one1 rfl trivial (ef_storeAg rfl rfl At.p1 upd_whole Nat.zero_lt_one rfl) (Take.cons _ _ _ _ _ Rem.p1 (Take.cons _ _ _ _ _ Rem.p3 (Take.nil _))) ?_
 refine GoP.done (GoK.le ?_ (hQ β44 β42))
 refine Le.ofDW ?_ (TkD.cons _ _ _ _ _ Rem.p1 (HLe.refl _) (TkD.cons _ _ _ _ _ Rem.p0 (HLe.refl _) (TkD.cons _ _ _ _ _ Rem.p0 (HLe.refl _) (TkD.cons _ _ _ _ _ Rem.p0 (HLe.refl _) (TkD.cons _ _ _ _ _ Rem.p0 (HLe.refl _) (TkD.nil _))))))
 repeat (first | exact EnvLeW.nil | refine EnvLeW.cons rfl ?_ | refine EnvLeW.skip rfl ?_)
 intro β41 β43
 exact (hQ β37 β41 β43)
 intro hQ
 rintro _ ⟨β38, rfl⟩
 refine GoP.oneB rfl trivial (ef_buildSlice (row ([(⟨(g.as.getD ((r8.getD ((((r8.length : Nat) : Int) - 1).toNat) (0 : Int)).toNat) El.d).t, (g.as.getD ((r8.getD 0 (0 : Int)).toNat) El.d).f, 0⟩ : Arc)] : List Arc)) rfl (Parts.cons _ _ _ _ _ _ _ _ ⟨rfl, rfl⟩ (Part.ag _ _ rfl) rfl rfl (Parts.nil _)) rfl rfl rfl rfl) (Take.cons _ _ _ _ _ Rem.p3 (Take.nil _)) (fun β45 => ?_)
 refine GoP.oneB rfl trivial (ef_append rfl rfl Rem.p2 (Src.own At.p0 (by first | omega | (simp only [subl_length, List.length_set, List.length_append, List.length_cons, List.length_nil, List.length_replicate, row_len]; omega) | (simp only [subl_length, List.length_set, List.length_append, List.length_cons, List.length_nil, List.length_replicate, row_len]; done))) (cat_row (α := Arc) (by first | rfl | omega | (simp only [subl_length, List.length_set, List.length_append, List.length_cons, List.length_nil, List.length_replicate, row_len] <;> first | rfl | omega)) (by first | rfl | omega | (simp only [subl_length, List.length_set, List.length_append, List.length_cons, List.length_nil, List.length_replicate, row_len] <;> first | rfl | omega)) (fun _ _ _ _ => rfl)) (by first | omega | (simp only [subl_length, List.length_set, List.length_append, List.length_cons, List.length_nil, List.length_replicate, row_len]; omega) | (simp only [subl_length, List.length_set, List.length_append, List.length_cons, List.length_nil, List.length_replicate, row_len]; done)) (app_le c30 rfl) rfl rfl rfl) (Take.cons _ _ _ _ _ Rem.p2 (Take.cons _ _ _ _ _ Rem.p3 (Take.nil _))) (fun β46 => ?_)
 refine GoP.qN rfl (ps_build (Parts.cons _ _ _ _ _ _ _ _ FdP.of (Part.one _ rfl rfl) rfl rfl (Parts.cons _ _ _ _ _ _ _ _ FdP.of (Part.one _ rfl rfl) rfl rfl (Parts.nil _))) rfl) ?_
 refine GoP.one1 rfl trivial (ef_storeAg rfl rfl At.p2 upd_whole Nat.zero_lt_one rfl) (Take.cons _ _ _ _ _ Rem.p2 (Take.cons _ _ _ _ _ Rem.p3 (Take.nil _))) ?_
 refine GoP.done (GoK.le ?_ (hQ β45 β46 β38))
 refine Le.ofDW ?_ (TkD.cons _ _ _ _ _ Rem.p2 (HLe.refl _) (TkD.cons _ _ _ _ _ Rem.p0 (HLe.refl _) (TkD.cons _ _ _ _ _ Rem.p0 (HLe.refl _) (TkD.cons _ _ _ _ _ Rem.p0 (HLe.refl _) (TkD.cons _ _ _ _ _ Rem.p0 (HLe.refl _) (TkD.nil _))))))
 repeat (first | exact EnvLeW.nil | refine EnvLeW.cons rfl ?_ | refine EnvLeW.skip rfl ?_)
 intro β37 β41 β43
 exact (hQ β26 β37 β41 β43)
 intro hQ
 rintro _ ⟨β32, rfl⟩
 apply GoP.fork3
 exact rfl
 exact rfl
 exact trivial
 exact trivial
 exact ef_call rfl (Take.nil _) (Take.nil _) (slices_Clone_Arc_spec g.as e27) (LendL.cons (Lend.refl _ _) (LendL.nil)) rfl (slices_Clone_Arc_I (r25))
 exact ef_alloc rfl
 exact (Take.cons _ _ _ _ _ Rem.p2 (Take.nil _))
 exact (Take.cons _ _ _ _ _ Rem.p2 (Take.nil _))
 intro hQ
 rintro _ ⟨_, _, hp, rfl⟩
 obtain ⟨β26, rfl, rfl⟩ := hp
 apply GoP.fork2
 exact rfl
 exact rfl
 exact trivial
 exact trivial
 exact ef_append rfl rfl Rem.p0 (Src.own At.p1 (by first | omega | (simp only [subl_length, List.length_set, List.length_append, List.length_cons, List.length_nil, List.length_replicate, row_len]; omega) | (simp only [subl_length, List.length_set, List.length_append, List.length_cons, List.length_nil, List.length_replicate, row_len]; done))) (cat_row (α := Arc) (by first | rfl | omega | (simp only [subl_length, List.length_set, List.length_append, List.length_cons, List.length_nil, List.length_replicate, row_len] <;> first | rfl | omega)) (by first | rfl | omega | (simp only [subl_length, List.length_set, List.length_append, List.length_cons, List.length_nil, List.length_replicate, row_len] <;> first | rfl | omega)) (fun _ _ _ _ => rfl)) (by first | omega | (simp only [subl_length, List.length_set, List.length_append, List.length_cons, List.length_nil, List.length_replicate, row_len]; omega) | (simp only [subl_length, List.length_set, List.length_append, List.length_cons, List.length_nil, List.length_replicate, row_len]; done)) (app_le c30 rfl) rfl rfl rfl
 exact ef_alloc rfl
 exact (Take.cons _ _ _ _ _ Rem.p0 (Take.cons _ _ _ _ _ Rem.p2 (Take.nil _)))
 exact (Take.cons _ _ _ _ _ Rem.p3 (Take.nil _))
 intro hQ
 rintro _ ⟨β52, rfl⟩
 refine GoP.qN rfl (ps_build (Parts.cons _ _ _ _ _ _ _ _ FdP.of (Part.one _ rfl rfl) rfl rfl (Parts.cons _ _ _ _ _ _ _ _ FdP.of (Part.one _ rfl rfl) rfl rfl (Parts.nil _))) rfl) ?_
 refine GoP.oneB rfl trivial (ef_alloc rfl) (Take.cons _ _ _ _ _ Rem.p3 (Take.nil _)) (fun β54 => ?_)
 refine GoP.one1 rfl trivial (ef_storeAg rfl rfl At.p0 upd_whole Nat.zero_lt_one rfl) (Take.cons _ _ _ _ _ Rem.p0 (Take.cons _ _ _ _ _ Rem.p3 (Take.nil _))) ?_
 exact GoP.done (hQ β52 β54)
 intro hQ
 rintro _ ⟨β53, rfl⟩
 refine GoP.oneB rfl trivial (ef_append rfl rfl Rem.p1 (Src.own At.p2 (by first | omega | (simp only [subl_length, List.length_set, List.length_append, List.length_cons, List.length_nil, List.length_replicate, row_len]; omega) | (simp only [subl_length, List.length_set, List.length_append, List.length_cons, List.length_nil, List.length_replicate, row_len]; done))) (cat_row (α := Arc) (by first | rfl | omega | (simp only [subl_length, List.length_set, List.length_append, List.length_cons, List.length_nil, List.length_replicate, row_len] <;> first | rfl | omega)) (by first | rfl | omega | (simp only [subl_length, List.length_set, List.length_append, List.length_cons, List.length_nil, List.length_replicate, row_len] <;> first | rfl | omega)) (fun _ _ _ _ => rfl)) (by first | omega | (simp only [subl_length, List.length_set, List.length_append, List.length_cons, List.length_nil, List.length_replicate, row_len]; omega) | (simp only [subl_length, List.length_set, List.length_append, List.length_cons, List.length_nil, List.length_replicate, row_len]; done)) (app_le c30 rfl) rfl rfl rfl) (Take.cons _ _ _ _ _ Rem.p1 (Take.cons _ _ _ _ _ Rem.p3 (Take.nil _))) (fun β55 => ?_)
 refine GoP.qN rfl (ps_build (Parts.cons _ _ _ _ _ _ _ _ FdP.of (Part.one _ rfl rfl) rfl rfl (Parts.cons _ _ _ _ _ _ _ _ FdP.of (Part.one _ rfl rfl) rfl rfl (Parts.nil _))) rfl) ?_
 refine GoP.one1 rfl trivial (ef_storeAg rfl rfl At.p1 upd_whole Nat.zero_lt_one rfl) (Take.cons _ _ _ _ _ Rem.p1 (Take.cons _ _ _ _ _ Rem.p3 (Take.nil _))) ?_
 refine GoP.done (GoK.le ?_ (hQ β55 β53))
 refine Le.ofDW ?_ (TkD.cons _ _ _ _ _ Rem.p1 (HLe.refl _) (TkD.cons _ _ _ _ _ Rem.p0 (HLe.refl _) (TkD.cons _ _ _ _ _ Rem.p0 (HLe.refl _) (TkD.cons _ _ _ _ _ Rem.p0 (HLe.refl _) (TkD.cons _ _ _ _ _ Rem.p0 (HLe.refl _) (TkD.nil _))))))
 repeat (first | exact EnvLeW.nil | refine EnvLeW.cons rfl ?_ | refine EnvLeW.skip rfl ?_)
 intro β52 β54
 exact (hQ β26 β52 β54)
 intro hQ
 rintro _ ⟨β49, rfl⟩
 refine GoP.oneC rfl trivial (ef_call rfl (Take.nil _) (Take.nil _) (slices_Clone_Arc_spec g.as e27) (LendL.cons (Lend.refl _ _) (LendL.nil)) rfl (slices_Clone_Arc_I (r25))) (Take.cons _ _ _ _ _ Rem.p3 (Take.nil _)) (fun rr HH hp => ?_)
 obtain ⟨β26, rfl, rfl⟩ := hp
 refine GoP.oneB rfl trivial (ef_append rfl rfl Rem.p0 (Src.own At.p2 (by first | omega | (simp only [subl_length, List.length_set, List.length_append, List.length_cons, List.length_nil, List.length_replicate, row_len]; omega) | (simp only [subl_length, List.length_set, List.length_append, List.length_cons, List.length_nil, List.length_replicate, row_len]; done))) (cat_row (α := Arc) (by first | rfl | omega | (simp only [subl_length, List.length_set, List.length_append, List.length_cons, List.length_nil, List.length_replicate, row_len] <;> first | rfl | omega)) (by first | rfl | omega | (simp only [subl_length, List.length_set, List.length_append, List.length_cons, List.length_nil, List.length_replicate, row_len] <;> first | rfl | omega)) (fun _ _ _ _ => rfl)) (by first | omega | (simp only [subl_length, List.length_set, List.length_append, List.length_cons, List.length_nil, List.length_replicate, row_len]; omega) | (simp only [subl_length, List.length_set, List.length_append, List.length_cons, List.length_nil, List.length_replicate, row_len]; done)) (app_le c30 rfl) rfl rfl rfl) (Take.cons _ _ _ _ _ Rem.p0 (Take.cons _ _ _ _ _ Rem.p3 (Take.nil _))) (fun β56 => ?_)
 refine GoP.qN rfl (ps_build (Parts.cons _ _ _ _ _ _ _ _ FdP.of (Part.one _ rfl rfl) rfl rfl (Parts.cons _ _ _ _ _ _ _ _ FdP.of (Part.one _ rfl rfl) rfl rfl (Parts.nil _))) rfl) ?_
 refine GoP.one1 rfl trivial (ef_storeAg rfl rfl At.p1 upd_whole Nat.zero_lt_one rfl) (Take.cons _ _ _ _ _ Rem.p1 (Take.cons _ _ _ _ _ Rem.p3 (Take.nil _))) ?_
 refine GoP.done (GoK.le ?_ (hQ β26 β56 β49))
 refine Le.ofDW ?_ (TkD.cons _ _ _ _ _ Rem.p1 (HLe.refl _) (TkD.cons _ _ _ _ _ Rem.p0 (HLe.refl _) (TkD.cons _ _ _ _ _ Rem.p0 (HLe.refl _) (TkD.cons _ _ _ _ _ Rem.p0 (HLe.refl _) (TkD.cons _ _ _ _ _ Rem.p0 (HLe.refl _) (TkD.nil _))))))
 repeat (first | exact EnvLeW.nil | refine EnvLeW.cons rfl ?_ | refine EnvLeW.skip rfl ?_)
 intro β26 β52 β54
 refine GoK.le ?_ (hQ β26 β32 β52 β54)
 refine Le.ofDW ?_ (TkD.cons _ _ _ _ _ Rem.p0 (HLe.refl _) (TkD.cons _ _ _ _ _ Rem.p0 (HLe.refl _) (TkD.cons _ _ _ _ _ Rem.p0 (HLe.refl _) (TkD.cons _ _ _ _ _ Rem.p0 (HLe.refl _) (TkD.cons _ _ _ _ _ Rem.p0 (HLe.refl _) (TkD.nil _))))))
 repeat (first | exact EnvLeW.nil | refine EnvLeW.cons rfl ?_ | refine EnvLeW.skip rfl ?_)
 intro hQ
 rintro _ ⟨β33, rfl⟩
 apply GoP.fork3
 exact rfl
 exact rfl
 exact trivial
 exact trivial
 exact ef_call rfl (Take.nil _) (Take.nil _) (slices_Clone_Arc_spec g.as e27) (LendL.cons (Lend.refl _ _) (LendL.nil)) rfl (slices_Clone_Arc_I (r25))
 exact ef_buildSlice (row ([(⟨(g.as.getD ((r8.getD ((((r8.length : Nat) : Int) - 1).toNat) (0 : Int)).toNat) El.d).t, (g.as.getD ((r8.getD 0 (0 : Int)).toNat) El.d).f, 0⟩ : Arc)] : List Arc)) rfl (Parts.cons _ _ _ _ _ _ _ _ ⟨rfl, rfl⟩ (Part.ag _ _ rfl) rfl rfl (Parts.nil _)) rfl rfl rfl rfl
 exact (Take.cons _ _ _ _ _ Rem.p2 (Take.nil _))
 exact (Take.cons _ _ _ _ _ Rem.p2 (Take.nil _))
 intro hQ
 rintro _ ⟨_, _, hp, rfl⟩
 obtain ⟨β26, rfl, rfl⟩ := hp
 refine GoP.oneB rfl trivial (ef_buildSlice (row ([(⟨(g.as.getD ((r8.getD ((((r8.length : Nat) : Int) - 1).toNat) (0 : Int)).toNat) El.d).t, (g.as.getD ((r8.getD 0 (0 : Int)).toNat) El.d).f, 0⟩ : Arc)] : List Arc)) rfl (Parts.cons _ _ _ _ _ _ _ _ ⟨rfl, rfl⟩ (Part.ag _ _ rfl) rfl rfl (Parts.nil _)) rfl rfl rfl rfl) (Take.cons _ _ _ _ _ Rem.p3 (Take.nil _)) (fun β60 => ?_)
 refine GoP.oneB rfl trivial (ef_append rfl rfl Rem.p1 (Src.own At.p0 (by first | omega | (simp only [subl_length, List.length_set, List.length_append, List.length_cons, List.length_nil, List.length_replicate, row_len]; omega) | (simp only [subl_length, List.length_set, List.length_append, List.length_cons, List.length_nil, List.length_replicate, row_len]; done))) (cat_row (α := Arc) (by first | rfl | omega | (simp only [subl_length, List.length_set, List.length_append, List.length_cons, List.length_nil, List.length_replicate, row_len] <;> first | rfl | omega)) (by first | rfl | omega | (simp only [subl_length, List.length_set, List.length_append, List.length_cons, List.length_nil, List.length_replicate, row_len] <;> first | rfl | omega)) (fun _ _ _ _ => rfl)) (by first | omega | (simp only [subl_length, List.length_set, List.length_append, List.length_cons, List.length_nil, List.length_replicate, row_len]; omega) | (simp only [subl_length, List.length_set, List.length_append, List.length_cons, List.length_nil, List.length_replicate, row_len]; done)) (app_le c30 rfl) rfl rfl rfl) (Take.cons _ _ _ _ _ Rem.p1 (Take.cons _ _ _ _ _ Rem.p3 (Take.nil _))) (fun β61 => ?_)
 refine GoP.qN rfl (ps_build (Parts.cons _ _ _ _ _ _ _ _ FdP.of (Part.one _ rfl rfl) rfl rfl (Parts.cons _ _ _ _ _ _ _ _ FdP.of (Part.one _ rfl rfl) rfl rfl (Parts.nil _))) rfl) ?_
 refine GoP.one1 rfl trivial (ef_storeAg rfl rfl At.p2 upd_whole Nat.zero_lt_one rfl) (Take.cons _ _ _ _ _ Rem.p2 (Take.cons _ _ _ _ _ Rem.p3 (Take.nil _))) ?_
 exact GoP.done (hQ β26 β60 β61)
 intro hQ
 rintro _ ⟨β59, rfl⟩
 refine GoP.oneC rfl trivial (ef_call rfl (Take.nil _) (Take.nil _) (slices_Clone_Arc_spec g.as e27) (LendL.cons (Lend.refl _ _) (LendL.nil)) rfl (slices_Clone_Arc_I (r25))) (Take.cons _ _ _ _ _ Rem.p3 (Take.nil _)) (fun rr HH hp => ?_)
 obtain ⟨β26, rfl, rfl⟩ := hp
 refine GoP.oneB rfl trivial (ef_append rfl rfl Rem.p0 (Src.own At.p1 (by first | omega | (simp only [subl_length, List.length_set, List.length_append, List.length_cons, List.length_nil, List.length_replicate, row_len]; omega) | (simp only [subl_length, List.length_set, List.length_append, List.length_cons, List.length_nil, List.length_replicate, row_len]; done))) (cat_row (α := Arc) (by first | rfl | omega | (simp only [subl_length, List.length_set, List.length_append, List.length_cons, List.length_nil, List.length_replicate, row_len] <;> first | rfl | omega)) (by first | rfl | omega | (simp only [subl_length, List.length_set, List.length_append, List.length_cons, List.length_nil, List.length_replicate, row_len] <;> first | rfl | omega)) (fun _ _ _ _ => rfl)) (by first | omega | (simp only [subl_length, List.length_set, List.length_append, List.length_cons, List.length_nil, List.length_replicate, row_len]; omega) | (simp only [subl_length, List.length_set, List.length_append, List.length_cons, List.length_nil, List.length_replicate, row_len]; done)) (app_le c30 rfl) rfl rfl rfl) (Take.cons _ _ _ _ _ Rem.p0 (Take.cons _ _ _ _ _ Rem.p3 (Take.nil _))) (fun β62 => ?_)
 refine GoP.qN rfl (ps_build (Parts.cons _ _ _ _ _ _ _ _ FdP.of (Part.one _ rfl rfl) rfl rfl (Parts.cons _ _ _ _ _ _ _ _ FdP.of (Part.one _ rfl rfl) rfl rfl (Parts.nil _))) rfl) ?_
 refine GoP.one1 rfl trivial (ef_storeAg rfl rfl At.p2 upd_whole Nat.zero_lt_one rfl) (Take.cons _ _ _ _ _ Rem.p2 (Take.cons _ _ _ _ _ Rem.p3 (Take.nil _))) ?_
 refine GoP.done (GoK.le ?_ (hQ β26 β59 β62))
 refine Le.ofDW ?_ (TkD.cons _ _ _ _ _ Rem.p0 (HLe.refl _) (TkD.cons _ _ _ _ _ Rem.p0 (HLe.refl _) (TkD.cons _ _ _ _ _ Rem.p0 (HLe.refl _) (TkD.cons _ _ _ _ _ Rem.p0 (HLe.refl _) (TkD.cons _ _ _ _ _ Rem.p0 (HLe.refl _) (TkD.nil _))))))
 repeat (first | exact EnvLeW.nil | refine EnvLeW.cons rfl ?_ | refine EnvLeW.skip rfl ?_)
 intro β26 β60 β61
 refine GoK.le ?_ (hQ β26 β60 β61 β33)
 refine Le.ofDW ?_ (TkD.cons _ _ _ _ _ Rem.p2 (HLe.refl _) (TkD.cons _ _ _ _ _ Rem.p0 (HLe.refl _) (TkD.cons _ _ _ _ _ Rem.p0 (HLe.refl _) (TkD.cons _ _ _ _ _ Rem.p0 (HLe.refl _) (TkD.cons _ _ _ _ _ Rem.p0 (HLe.refl _) (TkD.nil _))))))
 repeat (first | exact EnvLeW.nil | refine EnvLeW.cons rfl ?_ | refine EnvLeW.skip rfl ?_)
 intro β26 β37 β41 β43
 refine GoK.code ?_
 refine GoC.seq ?_
 refine GoC.region ?_
 refine GoO.pure (ps_loadAg rfl At.p0 At.p0 Nat.zero_lt_one rfl rfl) ?_
 have hb := bind_l H; clear H
 obtain ⟨⟨r63, r64⟩, e65, H⟩ := hb
 refine GoO.effC (ef_call rfl (Take.nil _) (Take.cons _ _ _ _ _ Rem.p1 (Take.nil _)) (euler_Can_spec (⟨g.n, (r25 ++ ([(⟨(g.as.getD ((r8.getD ((((r8.length : Nat) : Int) - 1).toNat) (0 : Int)).toNat) El.d).t, (g.as.getD ((r8.getD 0 (0 : Int)).toNat) El.d).f, 0⟩ : Arc)] : List Arc))⟩ : Graph) e65) (LendL.cons (Lend.agA ⟨⟨trivial, Lend.refl _ _⟩, Lend.all' At.p0 (by first | rfl | omega | (simp only [subl_length, List.length_set, List.length_append, List.length_cons, List.length_nil, List.length_replicate, row_len] <;> first | rfl | omega)) rfl⟩) (LendL.nil)) rfl (euler_Can_I (r63, r64))) (fun rr HH hp => ?_)
 obtain ⟨rfl, rfl⟩ := hp
 refine GoO.pure (ps_move rfl rfl) ?_
 refine GoO.pure (ps_extract rfl rfl rfl) ?_
 refine GoO.pure (ps_extract rfl rfl rfl) ?_
 refine GoO.pure (ps_assign rfl rfl) ?_
 refine GoO.pure (ps_assign rfl rfl) ?_
 refine GoO.nil ?_
 refine GoK.code ?_
 refine GoC.seq ?_
 refine GoC.drawA (.q 0 (.q 1 (.q 2 (.q 3 (.q 4 (.q 5 (.q 6 (.q 7 (.q 8 (.q 9 (.q 10 (.q 11 (.q 12 (.q 13 (.q 14 (.q 15 (.q 16 (.q 17 (.q 18 (.q 19 (.q 20 (.q 21 (.q 22 (.q 23 (.q 24 (.done)))))))))))))))))))))))))) follows (by kernel_rfl) ?_
 refine GoP.qN rfl (ps_move rfl rfl) ?_
 refine GoP.qN rfl (ps_eql rfl rfl rfl) ?_
 refine GoP.qN rfl (ps_move rfl rfl) ?_
 refine GoP.decideD 94 rfl (fun h66 => ?_) (fun h66 => ?_)
 replace H := ite_t h66 H
 refine GoP.qT rfl rfl rfl rfl (ps_move rfl rfl) ?_
 refine GoP.qT rfl rfl rfl rfl (ps_eql rfl rfl rfl) ?_
 refine GoP.qN rfl (ps_pickT rfl rfl rfl) ?_
 refine GoP.qN rfl (ps_move rfl rfl) ?_
 refine GoP.decideD 98 rfl (fun h67 => ?_) (fun h67 => ?_)
 replace H := ite_t h67 H
 refine GoP.qT rfl rfl rfl rfl (ps_move rfl rfl) ?_
 refine GoP.qT rfl rfl rfl rfl (ps_eql rfl rfl rfl) ?_
 refine GoP.qT rfl rfl rfl rfl (ps_fieldAddr rfl rfl) ?_
 refine GoP.qT rfl rfl rfl rfl (ps_load rfl At.p4 At.p4 Nat.zero_lt_one rfl rfl) ?_
 refine GoP.qT rfl rfl rfl rfl (ps_move rfl rfl) ?_
 refine GoP.qT rfl rfl rfl rfl (ps_indexAddrR rfl rfl c23 rfl) ?_
 refine GoP.qT rfl rfl rfl rfl (ps_fieldAddrR rfl rfl) ?_
 refine GoP.qT rfl rfl rfl rfl (ps_loadR rfl (idx_lt c23) rfl rfl) ?_
 refine GoP.qT rfl rfl rfl rfl (ps_fieldAddr rfl rfl) ?_
 refine GoP.qT rfl rfl rfl rfl (ps_load rfl At.p4 At.p4 Nat.zero_lt_one rfl rfl) ?_
 refine GoP.qT rfl rfl rfl rfl (ps_move rfl rfl) ?_
 refine GoP.qT rfl rfl rfl rfl (ps_indexAddrR rfl rfl c24 rfl) ?_
 refine GoP.qT rfl rfl rfl rfl (ps_fieldAddrR rfl rfl) ?_
 refine GoP.qT rfl rfl rfl rfl (ps_loadR rfl (idx_lt c24) rfl rfl) ?_
 refine GoP.qT rfl rfl rfl rfl (ps_eql rfl rfl rfl) ?_
 refine GoP.qT rfl rfl rfl rfl (ps_eqlB rfl rfl rfl) ?_
 refine GoP.qN rfl (ps_pickT rfl rfl rfl) ?_
 refine GoP.qN rfl (ps_assign rfl rfl) ?_
 refine GoP.done ?_
 refine GoK.code ?_
 obtain rfl := Option.some.inj H
 exact GoC.retL (ds := [.v (.bool (decide ((decide (r5 = 2)) = (decide (((g.as.getD ((r8.getD ((((r8.length : Nat) : Int) - 1).toNat) (0 : Int)).toNat) El.d).t) = ((g.as.getD ((r8.getD 0 (0 : Int)).toNat) El.d).f))))))]) Try.results9 (ResL.cons (ResD.tmp rfl) (ResL.nil)) (Take.nil _) ⟨rfl, rfl⟩
 replace H := ite_f h67 H
 refine GoP.qF rfl rfl rfl rfl rfl ?_
 refine GoP.qF rfl rfl rfl rfl rfl ?_
 refine GoP.qF rfl rfl rfl rfl rfl ?_
 refine GoP.qF rfl rfl rfl rfl rfl ?_
 refine GoP.qF rfl rfl rfl rfl rfl ?_
 refine GoP.qF rfl rfl rfl rfl rfl ?_
 refine GoP.qF rfl rfl rfl rfl rfl ?_
 refine GoP.qF rfl rfl rfl rfl rfl ?_
 refine GoP.qF rfl rfl rfl rfl rfl ?_
 refine GoP.qF rfl rfl rfl rfl rfl ?_
 refine GoP.qF rfl rfl rfl rfl rfl ?_
 refine GoP.qF rfl rfl rfl rfl rfl ?_
 refine GoP.qF rfl rfl rfl rfl rfl ?_
 refine GoP.qF rfl rfl rfl rfl rfl ?_
 refine GoP.qF rfl rfl rfl rfl rfl ?_
 refine GoP.qF rfl rfl rfl rfl rfl ?_
 refine GoP.qN rfl (ps_pickF rfl rfl rfl) ?_
 refine GoP.qN rfl (ps_assign rfl rfl) ?_
 refine GoP.done ?_
 refine GoK.code ?_
 obtain rfl := Option.some.inj H
 exact GoC.retL (ds := [.v (.bool false)]) Try.results9 (ResL.cons (ResD.tmp rfl) (ResL.nil)) (Take.nil _) ⟨rfl, rfl⟩
 replace H := ite_f h66 H
 refine GoP.qF rfl rfl rfl rfl rfl ?_
 refine GoP.qF rfl rfl rfl rfl rfl ?_
 refine GoP.qN rfl (ps_pickF rfl rfl rfl) ?_
 refine GoP.qN rfl (ps_move rfl rfl) ?_
 refine GoP.qF rfl rfl rfl rfl rfl ?_
 refine GoP.qF rfl rfl rfl rfl rfl ?_
 refine GoP.qF rfl rfl rfl rfl rfl ?_
 refine GoP.qF rfl rfl rfl rfl rfl ?_
 refine GoP.qF rfl rfl rfl rfl rfl ?_
 refine GoP.qF rfl rfl rfl rfl rfl ?_
 refine GoP.qF rfl rfl rfl rfl rfl ?_
 refine GoP.qF rfl rfl rfl rfl rfl ?_
 refine GoP.qF rfl rfl rfl rfl rfl ?_
 refine GoP.qF rfl rfl rfl rfl rfl ?_
 refine GoP.qF rfl rfl rfl rfl rfl ?_
 refine GoP.qF rfl rfl rfl rfl rfl ?_
 refine GoP.qF rfl rfl rfl rfl rfl ?_
 refine GoP.qF rfl rfl rfl rfl rfl ?_
 refine GoP.qF rfl rfl rfl rfl rfl ?_
 refine GoP.qF rfl rfl rfl rfl rfl ?_
 refine GoP.qN rfl (ps_pickF rfl rfl rfl) ?_
 refine GoP.qN rfl (ps_assign rfl rfl) ?_
 refine GoP.done ?_
 refine GoK.code ?_
 obtain rfl := Option.some.inj H
 exact GoC.retL (ds := [.v (.bool false)]) Try.results9 (ResL.cons (ResD.tmp rfl) (ResL.nil)) (Take.nil _) ⟨rfl, rfl⟩
 replace H := ite_t h21 H
 refine GoO.guardF rfl rfl rfl rfl ?_
 refine GoO.guardF rfl rfl rfl rfl ?_
 refine GoO.guardF rfl rfl rfl rfl ?_
 refine GoO.guardF rfl rfl rfl rfl ?_
 refine GoO.guardF rfl rfl rfl rfl ?_
 refine GoO.guardF rfl rfl rfl rfl ?_
 refine GoO.pure (ps_pickT rfl rfl rfl) ?_
 refine GoO.nil ?_
 refine GoK.code ?_
 refine GoC.condT rfl ?_
 refine GoC.seq ?_
 refine GoC.region ?_
 refine GoO.pure (ps_assign rfl rfl) ?_
 refine GoO.nil ?_
 refine GoK.code ?_
 obtain rfl := Option.some.inj H
 exact GoC.retL (ds := [.v (.bool false)]) Try.results9 (ResL.cons (ResD.tmp rfl) (ResL.nil)) (Take.nil _) ⟨rfl, rfl⟩
 replace H := ite_t h14 H
 refine GoO.guardF rfl rfl rfl rfl ?_
 refine GoO.guardF rfl rfl rfl rfl ?_
 refine GoO.guardF rfl rfl rfl rfl ?_
 refine GoO.pure (ps_pickT rfl rfl rfl) ?_
 refine GoO.nil ?_
 refine GoK.code ?_
 refine GoC.condT rfl ?_
 refine GoC.seq ?_
 refine GoC.region ?_
 refine GoO.pure (ps_move rfl rfl) ?_
 refine GoO.pure (ps_eql rfl rfl rfl) ?_
 refine GoO.pure (ps_move rfl rfl) ?_
 refine GoO.guardE rfl rfl rfl rfl (fun h68 => ?_) (fun h68 => ?_)
 replace H := ite_f h68 H
 refine GoO.pure (ps_move rfl rfl) ?_
 refine GoO.guardT rfl rfl rfl ?_
 refine GoO.pure (ps_len rfl (by constructor) rfl) ?_
 refine GoO.guardT rfl rfl rfl ?_
 refine GoO.pure (ps_eql rfl rfl rfl) ?_
 refine GoO.pure (ps_pickF rfl rfl rfl) ?_
 refine GoO.pure (ps_assign rfl rfl) ?_
 refine GoO.nil ?_
 refine GoK.code ?_
 obtain rfl := Option.some.inj H
 exact GoC.retL (ds := [.v (.bool (decide (((r8.length : Nat) : Int) = 0)))]) Try.results9 (ResL.cons (ResD.tmp rfl) (ResL.nil)) (Take.nil _) ⟨rfl, rfl⟩
 replace H := ite_t h68 H
 refine GoO.guardF rfl rfl rfl rfl ?_
 refine GoO.guardF rfl rfl rfl rfl ?_
 refine GoO.pure (ps_pickT rfl rfl rfl) ?_
 refine GoO.pure (ps_assign rfl rfl) ?_
 refine GoO.nil ?_
 refine GoK.code ?_
 obtain rfl := Option.some.inj H
 exact GoC.retL (ds := [.v (.bool true)]) Try.results9 (ResL.cons (ResD.tmp rfl) (ResL.nil)) (Take.nil _) ⟨rfl, rfl⟩
 replace H := ite_t h12 H
 refine GoO.guardF rfl rfl rfl rfl ?_
 refine GoO.guardF rfl rfl rfl rfl ?_
 refine GoO.pure (ps_pickT rfl rfl rfl) ?_
 refine GoO.pure (ps_move rfl rfl) ?_
 refine GoO.guardF rfl rfl rfl rfl ?_
 refine GoO.guardF rfl rfl rfl rfl ?_
 refine GoO.guardF rfl rfl rfl rfl ?_
 refine GoO.guardF rfl rfl rfl rfl ?_
 refine GoO.pure (ps_pickT rfl rfl rfl) ?_
 refine GoO.nil ?_
 refine GoK.code ?_
 refine GoC.condT rfl ?_
 refine GoC.seq ?_
 refine GoC.region ?_
 refine GoO.pure (ps_move rfl rfl) ?_
 refine GoO.pure (ps_eql rfl rfl rfl) ?_
 refine GoO.pure (ps_move rfl rfl) ?_
 refine GoO.guardE rfl rfl rfl rfl (fun h69 => ?_) (fun h69 => ?_)
 replace H := ite_f h69 H
 refine GoO.pure (ps_move rfl rfl) ?_
 refine GoO.guardT rfl rfl rfl ?_
 refine GoO.pure (ps_len rfl (by constructor) rfl) ?_
 refine GoO.lenLe (n := r8.length) (x := .tmp 40) rfl (by constructor) own_lenLe (fun ml70 => ?_)
 refine GoO.guardT rfl rfl rfl ?_
 refine GoO.pure (ps_eql rfl rfl rfl) ?_
 refine GoO.pure (ps_pickF rfl rfl rfl) ?_
 refine GoO.pure (ps_assign rfl rfl) ?_
 refine GoO.nil ?_
 refine GoK.code ?_
 obtain rfl := Option.some.inj H
 exact GoC.retL (ds := [.v (.bool (decide (((r8.length : Nat) : Int) = 0)))]) Try.results9 (ResL.cons (ResD.tmp rfl) (ResL.nil)) (Take.nil _) ⟨rfl, rfl⟩
 replace H := ite_t h69 H
 refine GoO.guardF rfl rfl rfl rfl ?_
 refine GoO.guardF rfl rfl rfl rfl ?_
 refine GoO.pure (ps_pickT rfl rfl rfl) ?_
 refine GoO.pure (ps_assign rfl rfl) ?_
 refine GoO.nil ?_
 refine GoK.code ?_
 obtain rfl := Option.some.inj H
 exact GoC.retL (ds := [.v (.bool true)]) Try.results9 (ResL.cons (ResD.tmp rfl) (ResL.nil)) (Take.nil _) ⟨rfl, rfl⟩

end Go.Proofs.Ytblhoelmodbifaa
