/- The functions weirkeep.DoubleAdds, told as plain functions, and that the code does as they say. -/
import Derived.Test.YtkpdkigkhbkfiaaTys
import Derived.Test.YtkpdkigkhbkfiaaDat
import Derived.Test.YtkpdkigkhbkfiaaGdouble
import Derived.Test.YtkpdkigkhbkfiaaGkeep
import Derived.Test.YtkpdkigkhbkfiaaGref
import Derived.Test.YtkpdkigkhbkfiaaGslices
namespace Go.Proofs.Ytkpdkigkhbkfiaa
open Go Go.Proofs.Ytkpdkigkhbkfiaa.Sx
set_option linter.unusedVariables false
set_option linter.unusedSimpArgs false
def weirkeep_DoubleAdds_B2 (t : (List (List Int))) (u : (List (List Int))) (r8 : Int) (k31 : Nat) : Nat → (List (List Int)) → Option ((List (List Int))) := fun k53 g47 =>
 if r8 = 0 then
  if ((u.length : Nat) : Int) = ((t.length : Nat) : Int) then
   ck (k31 < g47.length) <|
   ck (k53 < (t.getD k31 []).length) <|
   ck (k31 < u.length) <|
   ck (k53 < (u.getD k31 []).length) <|
   ck (InI (((t.getD k31 []).getD k53 (0 : Int)) + ((u.getD k31 []).getD k53 (0 : Int)))) <|
   ck ((g47.getD k31 []).length + 1 ≤ 17592186044416) <|
   some (g47.set k31 ((g47.getD k31 []) ++ ([(((t.getD k31 []).getD k53 (0 : Int)) + ((u.getD k31 []).getD k53 (0 : Int)))] : List Int)))
  else
   some g47
 else
  some g47
def weirkeep_DoubleAdds_B1 (t : (List (List Int))) (u : (List (List Int))) (way : (List Int)) (r8 : Int) (r13 : Int) : Nat → ((List (List Int)) × (List (List Int))) → Option ((List (List Int)) × (List (List Int))) := fun k31 (g22, g24) =>
 (slices_Clone_int_F (t.getD k31 [])).bind fun r33 =>
 ck (k31 < g24.length) <|
 ((
  (weirref_Numbers_F way ((t.length : Nat) : Int)).bind fun r41 =>
  if r41 = true then
   ck (k31 < way.length) <|
   ck (0 ≤ (way.getD k31 (0 : Int)) ∧ (way.getD k31 (0 : Int)) < ((((g24.set k31 r33).getD k31 []).length : Nat) : Int)) <|
   ck (InI ((((g24.set k31 r33).getD k31 []).getD ((way.getD k31 (0 : Int)).toNat) (0 : Int)) + r13)) <|
   some ((g24.set k31 r33).set k31 (((g24.set k31 r33).getD k31 []).set ((way.getD k31 (0 : Int)).toNat) ((((g24.set k31 r33).getD k31 []).getD ((way.getD k31 (0 : Int)).toNat) (0 : Int)) + r13)))
  else
   some (g24.set k31 r33)) : Option ((List (List Int)))).bind fun g37 =>
 (forN (weirkeep_DoubleAdds_B2 t u r8 k31) t.length 0 g22).bind fun g52 =>
 some (g52, g37)
def weirkeep_DoubleAdds_F (t : (List (List Int))) (u : (List (List Int))) (way : (List Int)) (by_ : Int) : Option (Bool) :=
 (weirkeep_doubles_F).bind fun r1 =>
 if (!r1) = true then
  some false
 else
  (double_Check_F t).bind fun (r4, r5) =>
  (double_Check_F u).bind fun (r7, r8) =>
  if r5 ≠ 0 then
   some (decide (r4 = 0))
  else
   if ((t.length : Nat) : Int) = 0 then
    some (decide (r4 = 0))
   else
    (weirref_Rest_F by_ 20).bind fun r13 =>
    ck (0 ≤ ((t.length : Nat) : Int) ∧ ((t.length : Nat) : Int) ≤ 10000000000) <|
    (forN (weirkeep_DoubleAdds_B1 t u way r8 r13) t.length 0 ((List.replicate (((t.length : Nat) : Int).toNat) ([] : List Int)), (List.replicate (((t.length : Nat) : Int).toNat) ([] : List Int)))).bind fun (g29, g30) =>
    ((
     (weirref_Numbers_F way ((t.length : Nat) : Int)).bind fun r70 =>
     if r70 = true then
      (double_Check_F g30).bind fun (r73, r74) =>
      if r74 = 0 then
       ck (InI (r4 + r13)) <|
       if r73 ≠ (r4 + r13) then
        some (.ret false)
       else
        if r74 ≠ 0 then
         if r74 ≠ 1 then
          some (.ret false)
         else
          some (.go ())
        else
         some (.go ())
      else
       if r74 ≠ 0 then
        if r74 ≠ 1 then
         some (.ret false)
        else
         some (.go ())
       else
        some (.go ())
     else
      some (.go ())) : Option (Ex (Unit) (Bool))).bind fun q => match q with
    | .go () =>
     if r8 ≠ 0 then
      some true
     else
      if ((u.length : Nat) : Int) ≠ ((t.length : Nat) : Int) then
       some true
      else
       (double_Check_F g29).bind fun (r86, r87) =>
       if r87 = 1 then
        some true
       else
        if r87 = 0 then
         ck (InI (r4 + r7)) <|
         some (decide (r86 = (r4 + r7)))
        else
         some false
    | .ret x => some x
def weirkeep_DoubleAdds_P (out : Bool) (d : D) (H : List HL) : Prop := d = .v (.bool out) ∧ H = []
theorem weirkeep_DoubleAdds_I (out : Bool) : IndepP (weirkeep_DoubleAdds_P out) := IndepP.of (by rintro _ _ ⟨rfl, rfl⟩; exact ⟨inferInstance, inferInstance⟩)
set_option maxRecDepth 100000 in
set_option maxHeartbeats 4000000 in
theorem weirkeep_DoubleAdds_spec (t : (List (List Int))) (u : (List (List Int))) (way : (List Int)) (by_ : Int) {out : Bool} (H : weirkeep_DoubleAdds_F t u way by_ = some out) : Does Try.prog 9 [slD t, slD u, slD way, .v (.int .i64 by_)] [] (weirkeep_DoubleAdds_P out) := by
 unfold weirkeep_DoubleAdds_F at H
 refine Does.intro Try.func9 rfl Try.ntmps9 rfl fun w0 I0 => ?_
 refine GoC.seq ?_
 refine GoC.region ?_
 refine GoO.pure (ps_assign rfl rfl) ?_
 refine GoO.nil ?_
 refine GoK.code ?_
 refine GoC.seq ?_
 refine GoC.seq ?_
 refine GoC.region ?_
 have hb := bind_l H; clear H
 obtain ⟨r1, e2, H⟩ := hb
 refine GoO.effC (ef_call rfl (Take.nil _) (Take.nil _) (weirkeep_doubles_spec e2) (LendL.nil) rfl (weirkeep_doubles_I (r1))) (fun rr HH hp => ?_)
 obtain ⟨rfl, rfl⟩ := hp
 refine GoO.pure (ps_not rfl rfl) ?_
 refine GoO.nil ?_
 refine GoK.code ?_
 refine GoC.cond rfl (fun h3 => ?_) (fun h3 => ?_)
 replace H := itb_t h3 H
 refine GoC.seq ?_
 refine GoC.region ?_
 refine GoO.pure (ps_assign rfl rfl) ?_
 refine GoO.nil ?_
 refine GoK.code ?_
 obtain rfl := Option.some.inj H
 exact GoC.retL (ds := [.v (.bool false)]) Try.results9 (ResL.cons (ResD.tmp rfl) (ResL.nil)) (Take.nil _) ⟨rfl, rfl⟩
 replace H := itb_f h3 H
 refine GoC.skip ?_
 refine GoK.code ?_
 refine GoC.seq ?_
 refine GoC.region ?_
 refine GoO.pure (ps_move rfl rfl) ?_
 have hb := bind_l H; clear H
 obtain ⟨⟨r4, r5⟩, e6, H⟩ := hb
 refine GoO.effC (ef_call rfl (Take.nil _) (Take.nil _) (double_Check_spec t e6) (LendL.cons (Lend.refl _ _) (LendL.nil)) rfl (double_Check_I (r4, r5))) (fun rr HH hp => ?_)
 obtain ⟨rfl, rfl⟩ := hp
 refine GoO.pure (ps_move rfl rfl) ?_
 refine GoO.pure (ps_extract rfl rfl rfl) ?_
 refine GoO.pure (ps_extract rfl rfl rfl) ?_
 refine GoO.pure (ps_assign rfl rfl) ?_
 refine GoO.pure (ps_assign rfl rfl) ?_
 refine GoO.nil ?_
 refine GoK.code ?_
 refine GoC.seq ?_
 refine GoC.region ?_
 refine GoO.pure (ps_move rfl rfl) ?_
 have hb := bind_l H; clear H
 obtain ⟨⟨r7, r8⟩, e9, H⟩ := hb
 refine GoO.effC (ef_call rfl (Take.nil _) (Take.nil _) (double_Check_spec u e9) (LendL.cons (Lend.refl _ _) (LendL.nil)) rfl (double_Check_I (r7, r8))) (fun rr HH hp => ?_)
 obtain ⟨rfl, rfl⟩ := hp
 refine GoO.pure (ps_move rfl rfl) ?_
 refine GoO.pure (ps_extract rfl rfl rfl) ?_
 refine GoO.pure (ps_extract rfl rfl rfl) ?_
 refine GoO.pure (ps_assign rfl rfl) ?_
 refine GoO.pure (ps_assign rfl rfl) ?_
 refine GoO.nil ?_
 refine GoK.code ?_
 refine GoC.seq ?_
 refine GoC.seq ?_
 refine GoC.region ?_
 refine GoO.pure (ps_move rfl rfl) ?_
 refine GoO.pure (ps_neq rfl rfl rfl) ?_
 refine GoO.pure (ps_move rfl rfl) ?_
 refine GoO.guardE rfl rfl rfl rfl (fun h10 => ?_) (fun h10 => ?_)
 replace H := ite_f h10 H
 refine GoO.pure (ps_move rfl rfl) ?_
 refine GoO.guardT rfl rfl rfl ?_
 refine GoO.pure (ps_len rfl (by constructor) rfl) ?_
 refine GoO.lenLe (n := t.length) (x := .tmp 36) rfl (by constructor) sl_lenLe (fun ml11 => ?_)
 refine GoO.guardT rfl rfl rfl ?_
 refine GoO.pure (ps_eql rfl rfl rfl) ?_
 refine GoO.pure (ps_pickF rfl rfl rfl) ?_
 refine GoO.nil ?_
 refine GoK.code ?_
 refine GoC.condD rfl (fun h12 => ?_) (fun h12 => ?_)
 replace H := ite_t h12 H
 refine GoC.seq ?_
 refine GoC.region ?_
 refine GoO.pure (ps_move rfl rfl) ?_
 refine GoO.pure (ps_eql rfl rfl rfl) ?_
 refine GoO.pure (ps_assign rfl rfl) ?_
 refine GoO.nil ?_
 refine GoK.code ?_
 obtain rfl := Option.some.inj H
 exact GoC.retL (ds := [.v (.bool (decide (r4 = 0)))]) Try.results9 (ResL.cons (ResD.tmp rfl) (ResL.nil)) (Take.nil _) ⟨rfl, rfl⟩
 replace H := ite_f h12 H
 refine GoC.skip ?_
 refine GoK.code ?_
 refine GoC.seq ?_
 refine GoC.region ?_
 refine GoO.pure (ps_move rfl rfl) ?_
 have hb := bind_l H; clear H
 obtain ⟨r13, e14, H⟩ := hb
 refine GoO.effC (ef_call rfl (Take.nil _) (Take.nil _) (weirref_Rest_spec by_ 20 e14) (LendL.cons (Lend.refl _ _) (LendL.cons (Lend.refl _ _) (LendL.nil))) rfl (weirref_Rest_I (r13))) (fun rr HH hp => ?_)
 obtain ⟨rfl, rfl⟩ := hp
 refine GoO.pure (ps_assign rfl rfl) ?_
 refine GoO.nil ?_
 refine GoK.code ?_
 refine GoC.seq ?_
 refine GoC.drawA (.q 0 (.q 1 (.q 3 (.q 4 (.two 2 5 (.q 6 (.one 5 (.q 7 (.done)))) (.one 2 (.q 6 (.q 7 (.done))))))))) follows (by kernel_rfl) ?_
 refine GoP.qN rfl (ps_move rfl rfl) ?_
 refine GoP.qN rfl (ps_len rfl (by constructor) rfl) ?_
 refine GoP.qN rfl (ps_move rfl rfl) ?_
 refine GoP.qN rfl (ps_len rfl (by constructor) rfl) ?_
 have c16 := ck_l H; replace H := ck_r H
 apply GoP.fork2
 exact rfl
 exact rfl
 exact trivial
 exact trivial
 exact ef_makeZ rfl rfl c16 rfl rfl rfl
 exact ef_makeZ rfl rfl c16 rfl rfl rfl
 exact (Take.nil _)
 exact (Take.nil _)
 intro hQ
 rintro _ ⟨β18, rfl⟩
 refine GoP.leD (Le.reH At.p0 (HLe.grid0Z (α := Int) (n := ((t.length : Nat) : Int).toNat) (fun _ => DLe.nilOwn))) ?_
 refine GoP.leD (Le.grid0 3 Int (((t.length : Nat) : Int).toNat)) ?_
 refine GoP.qN rfl (ps_assign rfl rfl) ?_
 refine GoP.oneB rfl trivial (ef_makeZ rfl rfl c16 rfl rfl rfl) (Take.nil _) (fun β20 => ?_)
 refine GoP.leD (Le.reH At.p0 (HLe.grid0Z (α := Int) (n := ((t.length : Nat) : Int).toNat) (fun _ => DLe.nilOwn))) ?_
 refine GoP.leD (Le.grid0 3 Int (((t.length : Nat) : Int).toNat)) ?_
 refine GoP.qN rfl (ps_assign rfl rfl) ?_
 exact GoP.done (hQ β18 β20)
 intro hQ
 rintro _ ⟨β19, rfl⟩
 refine GoP.leD (Le.reH At.p0 (HLe.grid0Z (α := Int) (n := ((t.length : Nat) : Int).toNat) (fun _ => DLe.nilOwn))) ?_
 refine GoP.leD (Le.grid0 3 Int (((t.length : Nat) : Int).toNat)) ?_
 refine GoP.oneB rfl trivial (ef_makeZ rfl rfl c16 rfl rfl rfl) (Take.nil _) (fun β21 => ?_)
 refine GoP.leD (Le.reH At.p0 (HLe.grid0Z (α := Int) (n := ((t.length : Nat) : Int).toNat) (fun _ => DLe.nilOwn))) ?_
 refine GoP.leD (Le.grid0 3 Int (((t.length : Nat) : Int).toNat)) ?_
 refine GoP.qN rfl (ps_assign rfl rfl) ?_
 refine GoP.qN rfl (ps_assign rfl rfl) ?_
 refine GoP.done (GoK.le ?_ (hQ β21 β19))
 refine Le.ofDW ?_ (TkD.cons _ _ _ _ _ Rem.p2 (HLe.refl _) (TkD.cons _ _ _ _ _ Rem.p2 (HLe.refl _) (TkD.cons _ _ _ _ _ Rem.p0 (HLe.refl _) (TkD.cons _ _ _ _ _ Rem.p0 (HLe.refl _) (TkD.nil _)))))
 repeat (first | exact EnvLeW.nil | refine EnvLeW.cons rfl ?_ | refine EnvLeW.skip rfl ?_)
 intro β18 β20
 refine GoK.code ?_
 refine GoC.seq ?_
 refine GoC.seq ?_
 refine GoC.region ?_
 refine GoO.pure (ps_move rfl rfl) ?_
 refine GoO.pure (ps_len rfl (by constructor) rfl) ?_
 refine GoO.pure (ps_move rfl rfl) ?_
 refine GoO.nil ?_
 refine GoK.code ?_
 have hb := bind_l H; clear H
 obtain ⟨⟨g29, g30⟩, hl67, HK26⟩ := hb
 refine GoC.blockJ [(0, slD t), (1, slD u), (2, slD way), (3, .v (.int .i64 r13)), (9, .v (.int .i64 r4)), (11, .v (.int .i64 r7)), (12, .v (.int .i64 r8))] [] (fun v h => ∃ (Γ23 : Nat → BK) (Γ25 : Nat → BK), v = [(13, .own β18 1 0 g29.length), (14, .own β20 1 0 g30.length)] ∧ h = [.one β18 27 1 (gridC Γ23 g29), gridH (α := Int) 3 Γ23 g29, .one β20 27 1 (gridC Γ25 g30), gridH (α := Int) 3 Γ25 g30]) ?_ ?_
 refine GoC.loopJ [(0, _), (1, _), (2, _), (3, _), (9, _), (11, _), (12, _), (51, _)] [] (fun mQ v h => ∃ (k31 : Nat) (g22 : (List (List Int))) (g24 : (List (List Int))) (Γ23 : Nat → BK) (Γ25 : Nat → BK), (k31 + mQ = t.length ∧ forN (weirkeep_DoubleAdds_B1 t u way r8 r13) mQ k31 (g22, g24) = some (g29, g30)) ∧ v = [(52, .v (.int .i64 ((k31 : Nat) : Int))), (13, .own β18 1 0 g22.length), (14, .own β20 1 0 g24.length)] ∧ h = [.one β18 27 1 (gridC Γ23 g22), gridH (α := Int) 3 Γ23 g22, .one β20 27 1 (gridC Γ25 g24), gridH (α := Int) 3 Γ25 g24]) t.length ⟨_, _, _, (fun _ => (⟨0, 0, 0⟩ : BK)), (fun _ => (⟨0, 0, 0⟩ : BK)), ⟨by omega, hl67⟩, rfl, rfl⟩ (EnvD.eq rfl (EnvD.cons rfl (DLe.len (by first | rfl | omega | (simp only [row_len, gridC_len, rowO_len, List.length_cons, List.length_nil, List.length_replicate, List.length_nil] <;> first | rfl | omega))) (EnvD.cons rfl (DLe.len (by first | rfl | omega | (simp only [row_len, gridC_len, rowO_len, List.length_cons, List.length_nil, List.length_replicate, List.length_nil] <;> first | rfl | omega))) (EnvD.eq rfl (EnvD.eq rfl (EnvD.eq rfl (EnvD.eq rfl (EnvD.eq rfl (EnvD.eq rfl (EnvD.eq rfl (EnvD.eq rfl (EnvD.nil)))))))))))) (TkD.cons _ _ _ _ _ Rem.p3 (HLe.refl _) (TkD.cons _ _ _ _ _ Rem.p2 (HLe.refl _) (TkD.cons _ _ _ _ _ Rem.p1 (HLe.refl _) (TkD.cons _ _ _ _ _ Rem.p0 (HLe.refl _) (TkD.nil _))))) ?_
 rintro m32 v h ⟨k31, g22, g24, Γ23, Γ25, ⟨hkk31, hF27⟩, rfl, rfl⟩
 refine GoC.seq ?_
 refine GoC.region ?_
 refine GoO.pure (ps_lss rfl rfl rfl) ?_
 refine GoO.nil ?_
 refine GoK.code ?_
 refine GoC.seq ?_
 refine GoC.condD rfl (fun (hk31 : (k31 : Int) < ((t.length : Nat) : Int)) => ?_) (fun (hk31 : ¬ (k31 : Int) < ((t.length : Nat) : Int)) => ?_)
 obtain ⟨m32', rfl⟩ : ∃ x, m32 = x + 1 := ⟨m32 - 1, by omega⟩
 have hb := bind_l hF27; clear hF27
 obtain ⟨qrm32, H, hF27⟩ := hb
 have hnk31 : k31 < t.length := by omega
 have hIk31 : InI ((k31 : Int) + 1) := inI_len hk31 ml11
 refine GoC.skip ?_
 refine GoK.code ?_
 refine GoC.seq ?_
 refine GoC.block ?_
 refine GoC.seq ?_
 refine GoC.region ?_
 refine GoO.pure (ps_move rfl rfl) ?_
 refine GoO.pure (ps_assign rfl rfl) ?_
 refine GoO.nil ?_
 refine GoK.code ?_
 refine GoC.seq ?_
 refine GoC.region ?_
 refine GoO.pure (ps_move rfl rfl) ?_
 refine GoO.pure (ps_move rfl rfl) ?_
 refine GoO.pure (ps_move rfl rfl) ?_
 refine GoO.pure (ps_move rfl rfl) ?_
 refine GoO.pure (ps_indexAddrRN rfl rfl hnk31 rfl) ?_
 refine GoO.pure (ps_loadR rfl hnk31 rfl rfl) ?_
 have hb := bind_l H; clear H
 obtain ⟨r33, e35, H⟩ := hb
 refine GoO.effC (ef_call rfl (Take.nil _) (Take.nil _) (slices_Clone_int_spec (t.getD k31 []) e35) (LendL.cons (Lend.refl _ _) (LendL.nil)) rfl (slices_Clone_int_I (r33))) (fun rr HH hp => ?_)
 obtain ⟨β34, rfl, rfl⟩ := hp
 have c36 := ck_l H; replace H := ck_r H
 refine GoO.pure (ps_indexAddr0N rfl rfl c36 rfl) ?_
 refine GoO.eff1 (ef_store rfl rfl rfl At.p3 (upd_grid (α := Int) (ys := r33) rfl (by first | rfl | omega | (simp only [subl_length, cpl_length, List.length_set, List.length_append, List.length_cons, List.length_nil, List.length_replicate, row_len]; omega) | (simp only [subl_length, cpl_length, List.length_set, List.length_append, List.length_cons, List.length_nil, List.length_replicate, row_len]; done) | simp)) c36 rfl) ?_
 refine GoO.le (Le.absorb (α := Int) (B := Γ25) (xs := g24) (ys := r33) (i := k31) Rem.p0 Rem.p3 rfl (fun _ _ => rfl) (fun _ _ => rfl)) ?_
 refine GoO.nil ?_
 refine GoK.code ?_
 have hb := bind_l H; clear H
 obtain ⟨g37, H, HK39⟩ := hb
 refine GoC.seqJ [(0, slD t), (1, slD u), (2, slD way), (3, .v (.int .i64 r13)), (9, .v (.int .i64 r4)), (11, .v (.int .i64 r7)), (12, .v (.int .i64 r8)), (13, .own β18 1 0 g22.length), (15, .v (.int .i64 ((k31 : Nat) : Int))), (51, .v (.int .i64 ((t.length : Nat) : Int))), (52, .v (.int .i64 ((k31 : Nat) : Int)))] [.one β18 27 1 (gridC Γ23 g22), gridH (α := Int) 3 Γ23 g22] (fun v h => ∃ (Γ38 : Nat → BK), v = [(14, .own β20 1 0 g37.length)] ∧ h = [.one β20 27 1 (gridC Γ38 g37), gridH (α := Int) 3 Γ38 g37]) ?_ ?_
 refine GoC.seq ?_
 refine GoC.region ?_
 refine GoO.pure (ps_move rfl rfl) ?_
 refine GoO.pure (ps_move rfl rfl) ?_
 refine GoO.pure (ps_len rfl (by constructor) rfl) ?_
 have hb := bind_l H; clear H
 obtain ⟨r41, e42, H⟩ := hb
 refine GoO.effC (ef_call rfl (Take.nil _) (Take.nil _) (weirref_Numbers_spec way ((t.length : Nat) : Int) e42) (LendL.cons (Lend.refl _ _) (LendL.cons (Lend.refl _ _) (LendL.nil))) rfl (weirref_Numbers_I (r41))) (fun rr HH hp => ?_)
 obtain ⟨rfl, rfl⟩ := hp
 refine GoO.nil ?_
 refine GoK.code ?_
 refine GoC.cond rfl (fun h43 => ?_) (fun h43 => ?_)
 replace H := itb_t h43 H
 refine GoC.drawQ (.q 0 (.q 1 (.q 2 (.q 3 (.q 4 (.q 5 (.q 6 (.q 7 (.q 8 (.q 9 (.q 10 (.q 11 (.q 12 (.one 13 (.done))))))))))))))) 13 follows (by kernel_rfl) ?_
 refine GoQ.qP rfl rfl (ps_move rfl rfl) ?_
 refine GoQ.qP rfl rfl (ps_move rfl rfl) ?_
 refine GoQ.qP rfl rfl (ps_indexAddr0N rfl rfl c36 rfl) ?_
 refine GoQ.qN rfl (by kernel_rfl) (ps_load rfl At.p3 At.p3 (lt_len c36 (by first | rfl | omega | (simp only [row_len, gridC_len, rowO_len, List.length_set] <;> first | rfl | omega))) rfl rfl) ?_
 refine GoQ.qP rfl rfl (ps_move rfl rfl) ?_
 refine GoQ.qP rfl rfl (ps_move rfl rfl) ?_
 have c44 := ck_l H; replace H := ck_r H
 refine GoQ.qP rfl rfl (ps_indexAddrRN rfl rfl c44 rfl) ?_
 refine GoQ.qP rfl rfl (ps_loadR rfl c44 rfl rfl) ?_
 have c45 := ck_l H; replace H := ck_r H
 refine GoQ.qP rfl rfl (ps_indexAddr0 rfl rfl c45 rfl) ?_
 refine GoQ.qN rfl (by kernel_rfl) (ps_loadG (α := Int) (xs := (g24.set k31 r33)) rfl rfl At.p0 At.p0 (lt_len c36 (by first | rfl | omega | (simp only [row_len, gridC_len, rowO_len, List.length_set] <;> first | rfl | omega))) (idx_lt c45) rfl rfl) ?_
 refine GoQ.qP rfl rfl (ps_move rfl rfl) ?_
 have c46 := ck_l H; replace H := ck_r H
 refine GoQ.qP rfl rfl (ps_add rfl rfl rfl c46) ?_
 refine GoQ.qP rfl rfl (ps_indexAddr0 rfl rfl c45 rfl) ?_
 refine GoQ.last1 rfl trivial (ef_storeG (α := Int) (xs := (g24.set k31 r33)) (v := ((((g24.set k31 r33).getD k31 []).getD ((way.getD k31 (0 : Int)).toNat) (0 : Int)) + r13)) rfl rfl rfl rfl At.p0 (upd_row1 (v := ((((g24.set k31 r33).getD k31 []).getD ((way.getD k31 (0 : Int)).toNat) (0 : Int)) + r13)) rfl) (lt_len c36 (by first | rfl | omega | (simp only [row_len, gridC_len, rowO_len, List.length_set] <;> first | rfl | omega))) (idx_lt c45) rfl) (Take.cons _ _ _ _ _ Rem.p0 (Take.nil _)) ?_
 refine GoP.leD (Le.reH At.p3 (HLe.gridW (α := Int) (i := k31) (e := (way.getD k31 (0 : Int)).toNat) (v := ((((g24.set k31 r33).getD k31 []).getD ((way.getD k31 (0 : Int)).toNat) (0 : Int)) + r13)))) ?_
 refine GoP.done ?_
 cases H
 exact GoK.meet ⟨(updF Γ25 k31 β34), rfl, rfl⟩ (EnvD.cons rfl (DLe.len (by first | rfl | omega | (simp only [row_len, gridC_len, rowO_len, List.length_set, List.length_cons, List.length_nil, List.length_nil] <;> first | rfl | omega))) (EnvD.eq rfl (EnvD.eq rfl (EnvD.eq rfl (EnvD.eq rfl (EnvD.eq rfl (EnvD.eq rfl (EnvD.eq rfl (EnvD.eq rfl (EnvD.eq rfl (EnvD.eq rfl (EnvD.eq rfl (EnvD.nil))))))))))))) (TkD.cons _ _ _ _ _ Rem.p3 (HLe.refl _) (TkD.cons _ _ _ _ _ Rem.p0 (HLe.refl _) (TkD.cons _ _ _ _ _ Rem.p0 (HLe.refl _) (TkD.cons _ _ _ _ _ Rem.p0 (HLe.refl _) (TkD.nil _)))))
 replace H := itb_f h43 H
 refine GoC.skip ?_
 cases H
 exact GoK.meet ⟨(updF Γ25 k31 β34), rfl, rfl⟩ (EnvD.cons rfl (DLe.len (by first | rfl | omega | (simp only [row_len, gridC_len, rowO_len, List.length_set] <;> first | rfl | omega))) (EnvD.eq rfl (EnvD.eq rfl (EnvD.eq rfl (EnvD.eq rfl (EnvD.eq rfl (EnvD.eq rfl (EnvD.eq rfl (EnvD.eq rfl (EnvD.eq rfl (EnvD.eq rfl (EnvD.eq rfl (EnvD.nil))))))))))))) (TkD.cons _ _ _ _ _ Rem.p3 (HLe.refl _) (TkD.cons _ _ _ _ _ Rem.p0 (HLe.refl _) (TkD.cons _ _ _ _ _ Rem.p0 (HLe.refl _) (TkD.cons _ _ _ _ _ Rem.p0 (HLe.refl _) (TkD.nil _)))))
 rintro v h ⟨Γ38, rfl, rfl⟩
 have H := HK39; clear HK39
 refine GoC.seq ?_
 refine GoC.region ?_
 refine GoO.pure (ps_move rfl rfl) ?_
 refine GoO.pure (ps_len rfl (by constructor) rfl) ?_
 refine GoO.pure (ps_move rfl rfl) ?_
 refine GoO.nil ?_
 refine GoK.code ?_
 have hb := bind_l H; clear H
 obtain ⟨g52, hl66, HK49⟩ := hb
 refine GoC.blockJ [(0, slD t), (1, slD u), (2, slD way), (3, .v (.int .i64 r13)), (9, .v (.int .i64 r4)), (11, .v (.int .i64 r7)), (12, .v (.int .i64 r8)), (14, .own β20 1 0 g37.length), (51, .v (.int .i64 ((t.length : Nat) : Int))), (52, .v (.int .i64 ((k31 : Nat) : Int)))] [.one β20 27 1 (gridC Γ38 g37), gridH (α := Int) 3 Γ38 g37] (fun v h => ∃ (Γ48 : Nat → BK), v = [(13, .own β18 1 0 g52.length)] ∧ h = [.one β18 27 1 (gridC Γ48 g52), gridH (α := Int) 3 Γ48 g52]) ?_ ?_
 refine GoC.loopJ [(0, _), (1, _), (2, _), (3, _), (9, _), (11, _), (12, _), (14, _), (15, _), (51, _), (52, _), (81, _)] [.one β20 27 1 (gridC Γ38 g37), gridH (α := Int) 3 Γ38 g37] (fun mQ v h => ∃ (k53 : Nat) (g47 : (List (List Int))) (Γ48 : Nat → BK), (k53 + mQ = t.length ∧ forN (weirkeep_DoubleAdds_B2 t u r8 k31) mQ k53 g47 = some g52) ∧ v = [(82, .v (.int .i64 ((k53 : Nat) : Int))), (13, .own β18 1 0 g47.length)] ∧ h = [.one β18 27 1 (gridC Γ48 g47), gridH (α := Int) 3 Γ48 g47]) t.length ⟨_, _, Γ23, ⟨by omega, hl66⟩, rfl, rfl⟩ (EnvD.eq rfl (EnvD.cons rfl (DLe.len (by first | rfl | omega | (simp only [row_len, gridC_len, rowO_len] <;> first | rfl | omega))) (EnvD.eq rfl (EnvD.eq rfl (EnvD.eq rfl (EnvD.eq rfl (EnvD.eq rfl (EnvD.eq rfl (EnvD.eq rfl (EnvD.eq rfl (EnvD.eq rfl (EnvD.eq rfl (EnvD.eq rfl (EnvD.eq rfl (EnvD.nil))))))))))))))) (TkD.cons _ _ _ _ _ Rem.p2 (HLe.refl _) (TkD.cons _ _ _ _ _ Rem.p2 (HLe.refl _) (TkD.cons _ _ _ _ _ Rem.p0 (HLe.refl _) (TkD.cons _ _ _ _ _ Rem.p0 (HLe.refl _) (TkD.nil _))))) ?_
 rintro m54 v h ⟨k53, g47, Γ48, ⟨hkk53, hF50⟩, rfl, rfl⟩
 refine GoC.seq ?_
 refine GoC.region ?_
 refine GoO.pure (ps_lss rfl rfl rfl) ?_
 refine GoO.nil ?_
 refine GoK.code ?_
 refine GoC.seq ?_
 refine GoC.condD rfl (fun (hk53 : (k53 : Int) < ((t.length : Nat) : Int)) => ?_) (fun (hk53 : ¬ (k53 : Int) < ((t.length : Nat) : Int)) => ?_)
 obtain ⟨m54', rfl⟩ : ∃ x, m54 = x + 1 := ⟨m54 - 1, by omega⟩
 have hb := bind_l hF50; clear hF50
 obtain ⟨qrm54, H, hF50⟩ := hb
 have hnk53 : k53 < t.length := by omega
 have hIk53 : InI ((k53 : Int) + 1) := inI_len hk53 ml11
 refine GoC.skip ?_
 refine GoK.code ?_
 refine GoC.seq ?_
 refine GoC.block ?_
 refine GoC.seq ?_
 refine GoC.region ?_
 refine GoO.pure (ps_move rfl rfl) ?_
 refine GoO.pure (ps_assign rfl rfl) ?_
 refine GoO.nil ?_
 refine GoK.code ?_
 refine GoC.seq ?_
 refine GoC.region ?_
 refine GoO.pure (ps_move rfl rfl) ?_
 refine GoO.pure (ps_eql rfl rfl rfl) ?_
 refine GoO.pure (ps_move rfl rfl) ?_
 refine GoO.guardD rfl rfl rfl rfl (fun h55 => ?_) (fun h55 => ?_)
 replace H := ite_t h55 H
 refine GoO.pure (ps_move rfl rfl) ?_
 refine GoO.guardT rfl rfl rfl ?_
 refine GoO.pure (ps_len rfl (by constructor) rfl) ?_
 refine GoO.lenLe (n := u.length) (x := .tmp 88) rfl (by constructor) sl_lenLe (fun ml56 => ?_)
 refine GoO.guardT rfl rfl rfl ?_
 refine GoO.pure (ps_move rfl rfl) ?_
 refine GoO.guardT rfl rfl rfl ?_
 refine GoO.pure (ps_len rfl (by constructor) rfl) ?_
 refine GoO.guardT rfl rfl rfl ?_
 refine GoO.pure (ps_eql rfl rfl rfl) ?_
 refine GoO.pure (ps_pickT rfl rfl rfl) ?_
 refine GoO.nil ?_
 refine GoK.code ?_
 refine GoC.condD rfl (fun h57 => ?_) (fun h57 => ?_)
 replace H := ite_t h57 H
 refine GoC.drawQ (.q 0 (.q 1 (.q 2 (.q 3 (.q 4 (.q 5 (.q 6 (.q 7 (.q 8 (.q 9 (.q 10 (.q 11 (.q 12 (.q 13 (.q 14 (.q 15 (.q 16 (.q 17 (.q 18 (.q 19 (.q 20 (.one 21 (.one 22 (.q 23 (.one 24 (.done)))))))))))))))))))))))))) 22 follows (by kernel_rfl) ?_
 refine GoQ.qP rfl rfl (ps_move rfl rfl) ?_
 refine GoQ.qP rfl rfl (ps_move rfl rfl) ?_
 refine GoQ.qP rfl rfl (ps_move rfl rfl) ?_
 refine GoQ.qP rfl rfl (ps_move rfl rfl) ?_
 have c58 := ck_l H; replace H := ck_r H
 refine GoQ.qP rfl rfl (ps_indexAddr0N rfl rfl c58 rfl) ?_
 refine GoQ.qN rfl (by kernel_rfl) (ps_load rfl At.p0 At.p0 c58 rfl rfl) ?_
 refine GoQ.qP rfl rfl (ps_move rfl rfl) ?_
 refine GoQ.qP rfl rfl (ps_move rfl rfl) ?_
 refine GoQ.qP rfl rfl (ps_indexAddrRN rfl rfl hnk31 rfl) ?_
 refine GoQ.qP rfl rfl (ps_loadR rfl hnk31 rfl rfl) ?_
 refine GoQ.qP rfl rfl (ps_move rfl rfl) ?_
 have c59 := ck_l H; replace H := ck_r H
 refine GoQ.qP rfl rfl (ps_indexAddrRN rfl rfl c59 rfl) ?_
 refine GoQ.qP rfl rfl (ps_loadR rfl c59 rfl rfl) ?_
 refine GoQ.qP rfl rfl (ps_move rfl rfl) ?_
 refine GoQ.qP rfl rfl (ps_move rfl rfl) ?_
 have c60 := ck_l H; replace H := ck_r H
 refine GoQ.qP rfl rfl (ps_indexAddrRN rfl rfl c60 rfl) ?_
 refine GoQ.qP rfl rfl (ps_loadR rfl c60 rfl rfl) ?_
 refine GoQ.qP rfl rfl (ps_move rfl rfl) ?_
 have c61 := ck_l H; replace H := ck_r H
 refine GoQ.qP rfl rfl (ps_indexAddrRN rfl rfl c61 rfl) ?_
 refine GoQ.qP rfl rfl (ps_loadR rfl c61 rfl rfl) ?_
 have c62 := ck_l H; replace H := ck_r H
 refine GoQ.qP rfl rfl (ps_add rfl rfl rfl c62) ?_
 refine GoQ.oneB rfl rfl trivial (ef_buildSlice (row ([(((t.getD k31 []).getD k53 (0 : Int)) + ((u.getD k31 []).getD k53 (0 : Int)))] : List Int)) rfl (Parts.cons _ _ _ _ _ _ _ _ ⟨rfl, rfl⟩ (Part.one _ rfl rfl) rfl rfl (Parts.nil _)) rfl rfl rfl rfl) (Take.cons _ _ _ _ _ Rem.p0 (Take.cons _ _ _ _ _ Rem.p0 (Take.cons _ _ _ _ _ Rem.p0 (Take.cons _ _ _ _ _ Rem.p0 (Take.nil _))))) (fun β63 => ?_)
 refine GoQ.le (Le.takeG (α := Int) (xs := g47) (i := k31) Rem.p2 c58) ?_
 have c65 := ck_l H; replace H := ck_r H
 refine GoQ.lastB rfl trivial (ef_append rfl rfl Rem.p0 (Src.own At.p2 (by first | omega | (simp only [subl_length, cpl_length, List.length_set, List.length_append, List.length_cons, List.length_nil, List.length_replicate, row_len]; omega) | (simp only [subl_length, cpl_length, List.length_set, List.length_append, List.length_cons, List.length_nil, List.length_replicate, row_len]; done))) (cat_row (α := Int) (by first | rfl | omega | (simp only [subl_length, cpl_length, List.length_set, List.length_append, List.length_cons, List.length_nil, List.length_replicate, row_len] <;> first | rfl | omega)) (by first | rfl | omega | (simp only [subl_length, cpl_length, List.length_set, List.length_append, List.length_cons, List.length_nil, List.length_replicate, row_len] <;> first | rfl | omega)) (fun _ _ _ _ => rfl)) (by first | omega | (simp only [subl_length, cpl_length, List.length_set, List.length_append, List.length_cons, List.length_nil, List.length_replicate, row_len]; omega) | (simp only [subl_length, cpl_length, List.length_set, List.length_append, List.length_cons, List.length_nil, List.length_replicate, row_len]; done)) (app_le c65 rfl) rfl rfl rfl) (Take.cons _ _ _ _ _ Rem.p0 (Take.nil _)) (fun β64 => ?_)
 refine GoP.qN rfl (ps_indexAddr0N rfl rfl c58 rfl) ?_
 refine GoP.one1 rfl trivial (ef_store rfl rfl rfl At.p3 (upd_grid (α := Int) (ys := ((g47.getD k31 []) ++ ([(((t.getD k31 []).getD k53 (0 : Int)) + ((u.getD k31 []).getD k53 (0 : Int)))] : List Int))) rfl (by first | rfl | omega | (simp only [subl_length, cpl_length, List.length_set, List.length_append, List.length_cons, List.length_nil, List.length_replicate, row_len]; omega) | (simp only [subl_length, cpl_length, List.length_set, List.length_append, List.length_cons, List.length_nil, List.length_replicate, row_len]; done) | simp)) c58 rfl) (Take.cons _ _ _ _ _ Rem.p3 (Take.nil _)) ?_
 refine GoP.leD (Le.absorb (α := Int) (B := Γ48) (xs := g47) (ys := ((g47.getD k31 []) ++ ([(((t.getD k31 []).getD k53 (0 : Int)) + ((u.getD k31 []).getD k53 (0 : Int)))] : List Int))) (i := k31) Rem.p0 Rem.p0 (by simp) (fun _ h => if_neg h) (fun _ h => grid_ne h)) ?_
 refine GoP.done ?_
 refine GoK.blk ?_
 refine GoK.code ?_
 refine GoC.region ?_
 refine GoO.pure (ps_add rfl rfl rfl hIk53) ?_
 refine GoO.pure (ps_move rfl rfl) ?_
 refine GoO.nil ?_
 obtain rfl := Option.some.inj H
 exact GoK.againJ m54' (by omega) ⟨_, _, (updF Γ48 k31 β64), ⟨by omega, hF50⟩, rfl, rfl⟩ (EnvD.eq rfl (EnvD.cons rfl (DLe.len (by first | rfl | omega | (simp only [row_len, gridC_len, rowO_len, List.length_set, List.length_append, List.length_cons, List.length_nil, List.length_nil] <;> first | rfl | omega))) (EnvD.eq rfl (EnvD.eq rfl (EnvD.eq rfl (EnvD.eq rfl (EnvD.eq rfl (EnvD.eq rfl (EnvD.eq rfl (EnvD.eq rfl (EnvD.eq rfl (EnvD.eq rfl (EnvD.eq rfl (EnvD.eq rfl (EnvD.nil))))))))))))))) (TkD.cons _ _ _ _ _ Rem.p2 (HLe.refl _) (TkD.cons _ _ _ _ _ Rem.p0 (HLe.refl _) (TkD.cons _ _ _ _ _ Rem.p1 (HLe.refl _) (TkD.cons _ _ _ _ _ Rem.p1 (HLe.refl _) (TkD.nil _)))))
 replace H := ite_f h57 H
 refine GoC.skip ?_
 refine GoK.blk ?_
 refine GoK.code ?_
 refine GoC.region ?_
 refine GoO.pure (ps_add rfl rfl rfl hIk53) ?_
 refine GoO.pure (ps_move rfl rfl) ?_
 refine GoO.nil ?_
 obtain rfl := Option.some.inj H
 exact GoK.againJ m54' (by omega) ⟨_, _, Γ48, ⟨by omega, hF50⟩, rfl, rfl⟩ (EnvD.eq rfl (EnvD.eq rfl (EnvD.eq rfl (EnvD.eq rfl (EnvD.eq rfl (EnvD.eq rfl (EnvD.eq rfl (EnvD.eq rfl (EnvD.eq rfl (EnvD.eq rfl (EnvD.eq rfl (EnvD.eq rfl (EnvD.eq rfl (EnvD.eq rfl (EnvD.nil))))))))))))))) (TkD.cons _ _ _ _ _ Rem.p0 (HLe.refl _) (TkD.cons _ _ _ _ _ Rem.p0 (HLe.refl _) (TkD.cons _ _ _ _ _ Rem.p0 (HLe.refl _) (TkD.cons _ _ _ _ _ Rem.p0 (HLe.refl _) (TkD.nil _)))))
 replace H := ite_f h55 H
 refine GoO.guardF rfl rfl rfl rfl ?_
 refine GoO.guardF rfl rfl rfl rfl ?_
 refine GoO.guardF rfl rfl rfl rfl ?_
 refine GoO.guardF rfl rfl rfl rfl ?_
 refine GoO.pure (ps_pickF rfl rfl rfl) ?_
 refine GoO.nil ?_
 refine GoK.code ?_
 refine GoC.condF rfl ?_
 refine GoC.skip ?_
 refine GoK.blk ?_
 refine GoK.code ?_
 refine GoC.region ?_
 refine GoO.pure (ps_add rfl rfl rfl hIk53) ?_
 refine GoO.pure (ps_move rfl rfl) ?_
 refine GoO.nil ?_
 obtain rfl := Option.some.inj H
 exact GoK.againJ m54' (by omega) ⟨_, _, Γ48, ⟨by omega, hF50⟩, rfl, rfl⟩ (EnvD.eq rfl (EnvD.eq rfl (EnvD.eq rfl (EnvD.eq rfl (EnvD.eq rfl (EnvD.eq rfl (EnvD.eq rfl (EnvD.eq rfl (EnvD.eq rfl (EnvD.eq rfl (EnvD.eq rfl (EnvD.eq rfl (EnvD.eq rfl (EnvD.eq rfl (EnvD.nil))))))))))))))) (TkD.cons _ _ _ _ _ Rem.p0 (HLe.refl _) (TkD.cons _ _ _ _ _ Rem.p0 (HLe.refl _) (TkD.cons _ _ _ _ _ Rem.p0 (HLe.refl _) (TkD.cons _ _ _ _ _ Rem.p0 (HLe.refl _) (TkD.nil _)))))
 obtain rfl : m54 = 0 := by omega
 refine GoC.exit rfl ?_
 cases hF50
 exact GoK.meet ⟨Γ48, rfl, rfl⟩ (EnvD.cons rfl (DLe.len (by first | rfl | omega | (simp only [row_len, gridC_len, rowO_len] <;> first | rfl | omega))) (EnvD.eq rfl (EnvD.eq rfl (EnvD.eq rfl (EnvD.eq rfl (EnvD.eq rfl (EnvD.eq rfl (EnvD.eq rfl (EnvD.eq rfl (EnvD.eq rfl (EnvD.eq rfl (EnvD.nil)))))))))))) (TkD.cons _ _ _ _ _ Rem.p0 (HLe.refl _) (TkD.cons _ _ _ _ _ Rem.p0 (HLe.refl _) (TkD.cons _ _ _ _ _ Rem.p0 (HLe.refl _) (TkD.cons _ _ _ _ _ Rem.p0 (HLe.refl _) (TkD.nil _)))))
 rintro v h ⟨Γ48, rfl, rfl⟩
 have H := HK49; clear HK49
 refine GoK.blk ?_
 refine GoK.code ?_
 refine GoC.region ?_
 refine GoO.pure (ps_add rfl rfl rfl hIk31) ?_
 refine GoO.pure (ps_move rfl rfl) ?_
 refine GoO.nil ?_
 obtain rfl := Option.some.inj H
 exact GoK.againJ m32' (by omega) ⟨_, _, _, Γ48, Γ38, ⟨by omega, hF27⟩, rfl, rfl⟩ (EnvD.eq rfl (EnvD.cons rfl (DLe.len (by first | rfl | omega | (simp only [row_len, gridC_len, rowO_len] <;> first | rfl | omega))) (EnvD.cons rfl (DLe.len (by first | rfl | omega | (simp only [row_len, gridC_len, rowO_len] <;> first | rfl | omega))) (EnvD.eq rfl (EnvD.eq rfl (EnvD.eq rfl (EnvD.eq rfl (EnvD.eq rfl (EnvD.eq rfl (EnvD.eq rfl (EnvD.eq rfl (EnvD.nil)))))))))))) (TkD.cons _ _ _ _ _ Rem.p0 (HLe.refl _) (TkD.cons _ _ _ _ _ Rem.p0 (HLe.refl _) (TkD.cons _ _ _ _ _ Rem.p0 (HLe.refl _) (TkD.cons _ _ _ _ _ Rem.p0 (HLe.refl _) (TkD.nil _)))))
 obtain rfl : m32 = 0 := by omega
 refine GoC.exit rfl ?_
 cases hF27
 exact GoK.meet ⟨Γ23, Γ25, rfl, rfl⟩ (EnvD.cons rfl (DLe.len (by first | rfl | omega | (simp only [row_len, gridC_len, rowO_len] <;> first | rfl | omega))) (EnvD.cons rfl (DLe.len (by first | rfl | omega | (simp only [row_len, gridC_len, rowO_len] <;> first | rfl | omega))) (EnvD.eq rfl (EnvD.eq rfl (EnvD.eq rfl (EnvD.eq rfl (EnvD.eq rfl (EnvD.eq rfl (EnvD.eq rfl (EnvD.nil)))))))))) (TkD.cons _ _ _ _ _ Rem.p0 (HLe.refl _) (TkD.cons _ _ _ _ _ Rem.p0 (HLe.refl _) (TkD.cons _ _ _ _ _ Rem.p0 (HLe.refl _) (TkD.cons _ _ _ _ _ Rem.p0 (HLe.refl _) (TkD.nil _)))))
 rintro v h ⟨Γ23, Γ25, rfl, rfl⟩
 have H := HK26; clear HK26
 refine GoK.code ?_
 have hb := bind_l H; clear H
 obtain ⟨q69, H, HK68⟩ := hb
 refine GoC.seqJ [(0, slD t), (1, slD u), (9, .v (.int .i64 r4)), (11, .v (.int .i64 r7)), (12, .v (.int .i64 r8)), (13, .own β18 1 0 g29.length)] [.one β18 27 1 (gridC Γ23 g29), gridH (α := Int) 3 Γ23 g29, .one β20 27 1 (gridC Γ25 g30), gridH (α := Int) 3 Γ25 g30] (fun v h => q69 = .go () ∧ v = [] ∧ h = []) ?_ ?_
 refine GoC.seq ?_
 refine GoC.region ?_
 refine GoO.pure (ps_move rfl rfl) ?_
 refine GoO.pure (ps_move rfl rfl) ?_
 refine GoO.pure (ps_len rfl (by constructor) rfl) ?_
 have hb := bind_l H; clear H
 obtain ⟨r70, e71, H⟩ := hb
 refine GoO.effC (ef_call rfl (Take.nil _) (Take.nil _) (weirref_Numbers_spec way ((t.length : Nat) : Int) e71) (LendL.cons (Lend.refl _ _) (LendL.cons (Lend.refl _ _) (LendL.nil))) rfl (weirref_Numbers_I (r70))) (fun rr HH hp => ?_)
 obtain ⟨rfl, rfl⟩ := hp
 refine GoO.nil ?_
 refine GoK.code ?_
 refine GoC.cond rfl (fun h72 => ?_) (fun h72 => ?_)
 replace H := itb_t h72 H
 refine GoC.seq ?_
 refine GoC.region ?_
 refine GoO.pure (ps_move rfl rfl) ?_
 have hb := bind_l H; clear H
 obtain ⟨⟨r73, r74⟩, e75, H⟩ := hb
 refine GoO.effC (ef_call rfl (Take.nil _) (Take.cons _ _ _ _ _ Rem.p2 (Take.cons _ _ _ _ _ Rem.p2 (Take.nil _))) (double_Check_spec g30 e75) (LendL.cons (Lend.grid (α := Int) (xs := g30) At.p0 At.p1 (by first | rfl | omega | (simp only [subl_length, cpl_length, List.length_set, List.length_append, List.length_cons, List.length_nil, List.length_replicate, row_len]; omega) | (simp only [subl_length, cpl_length, List.length_set, List.length_append, List.length_cons, List.length_nil, List.length_replicate, row_len]; done) | simp)) (LendL.nil)) rfl (double_Check_I (r73, r74))) (fun rr HH hp => ?_)
 obtain ⟨rfl, rfl⟩ := hp
 refine GoO.pure (ps_move rfl rfl) ?_
 refine GoO.pure (ps_extract rfl rfl rfl) ?_
 refine GoO.pure (ps_extract rfl rfl rfl) ?_
 refine GoO.pure (ps_assign rfl rfl) ?_
 refine GoO.pure (ps_assign rfl rfl) ?_
 refine GoO.nil ?_
 refine GoK.code ?_
 refine GoC.seq ?_
 refine GoC.region ?_
 refine GoO.pure (ps_move rfl rfl) ?_
 refine GoO.pure (ps_eql rfl rfl rfl) ?_
 refine GoO.pure (ps_move rfl rfl) ?_
 refine GoO.guardD rfl rfl rfl rfl (fun h76 => ?_) (fun h76 => ?_)
 replace H := ite_t h76 H
 refine GoO.pure (ps_move rfl rfl) ?_
 refine GoO.guardT rfl rfl rfl ?_
 refine GoO.pure (ps_move rfl rfl) ?_
 refine GoO.guardT rfl rfl rfl ?_
 refine GoO.pure (ps_move rfl rfl) ?_
 refine GoO.guardT rfl rfl rfl ?_
 have c77 := ck_l H; replace H := ck_r H
 refine GoO.pure (ps_add rfl rfl rfl c77) ?_
 refine GoO.guardT rfl rfl rfl ?_
 refine GoO.pure (ps_neq rfl rfl rfl) ?_
 refine GoO.pure (ps_pickT rfl rfl rfl) ?_
 refine GoO.pure (ps_move rfl rfl) ?_
 refine GoO.guardE rfl rfl rfl rfl (fun h78 => ?_) (fun h78 => ?_)
 replace H := ite_f h78 H
 refine GoO.pure (ps_move rfl rfl) ?_
 refine GoO.guardT rfl rfl rfl ?_
 refine GoO.pure (ps_neq rfl rfl rfl) ?_
 refine GoO.guardT rfl rfl rfl ?_
 refine GoO.pure (ps_move rfl rfl) ?_
 refine GoO.guardD rfl rfl rfl rfl (fun h79 => ?_) (fun h79 => ?_)
 replace H := ite_t h79 H
 refine GoO.pure (ps_move rfl rfl) ?_
 refine GoO.guardT rfl rfl rfl ?_
 refine GoO.pure (ps_neq rfl rfl rfl) ?_
 refine GoO.guardT rfl rfl rfl ?_
 refine GoO.pure (ps_pickT rfl rfl rfl) ?_
 refine GoO.pure (ps_pickF rfl rfl rfl) ?_
 refine GoO.nil ?_
 refine GoK.code ?_
 refine GoC.condD rfl (fun h80 => ?_) (fun h80 => ?_)
 replace H := ite_t h80 H
 refine GoC.seq ?_
 refine GoC.region ?_
 refine GoO.pure (ps_assign rfl rfl) ?_
 refine GoO.nil ?_
 refine GoK.code ?_
 obtain rfl := Option.some.inj H
 obtain rfl := Option.some.inj HK68
 exact GoC.retL (ds := [.v (.bool false)]) Try.results9 (ResL.cons (ResD.tmp rfl) (ResL.nil)) (Take.nil _) ⟨rfl, rfl⟩
 replace H := ite_f h80 H
 refine GoC.skip ?_
 obtain rfl := Option.some.inj H
 exact GoK.meet ⟨rfl, rfl, rfl⟩ (EnvD.eq rfl (EnvD.eq rfl (EnvD.eq rfl (EnvD.eq rfl (EnvD.eq rfl (EnvD.eq rfl (EnvD.nil))))))) (TkD.cons _ _ _ _ _ Rem.p0 (HLe.refl _) (TkD.cons _ _ _ _ _ Rem.p0 (HLe.refl _) (TkD.cons _ _ _ _ _ Rem.p0 (HLe.refl _) (TkD.cons _ _ _ _ _ Rem.p0 (HLe.refl _) (TkD.nil _)))))
 replace H := ite_f h79 H
 refine GoO.guardF rfl rfl rfl rfl ?_
 refine GoO.guardT rfl rfl rfl ?_
 refine GoO.pure (ps_pickF rfl rfl rfl) ?_
 refine GoO.pure (ps_pickF rfl rfl rfl) ?_
 refine GoO.nil ?_
 refine GoK.code ?_
 refine GoC.condF rfl ?_
 refine GoC.skip ?_
 obtain rfl := Option.some.inj H
 exact GoK.meet ⟨rfl, rfl, rfl⟩ (EnvD.eq rfl (EnvD.eq rfl (EnvD.eq rfl (EnvD.eq rfl (EnvD.eq rfl (EnvD.eq rfl (EnvD.nil))))))) (TkD.cons _ _ _ _ _ Rem.p0 (HLe.refl _) (TkD.cons _ _ _ _ _ Rem.p0 (HLe.refl _) (TkD.cons _ _ _ _ _ Rem.p0 (HLe.refl _) (TkD.cons _ _ _ _ _ Rem.p0 (HLe.refl _) (TkD.nil _)))))
 replace H := ite_t h78 H
 refine GoO.guardF rfl rfl rfl rfl ?_
 refine GoO.guardF rfl rfl rfl rfl ?_
 refine GoO.guardU rfl rfl rfl rfl ?_
 refine GoO.guardU rfl rfl rfl rfl ?_
 refine GoO.guardF rfl rfl rfl rfl ?_
 refine GoO.pure (ps_pickT rfl rfl rfl) ?_
 refine GoO.nil ?_
 refine GoK.code ?_
 refine GoC.condT rfl ?_
 refine GoC.seq ?_
 refine GoC.region ?_
 refine GoO.pure (ps_assign rfl rfl) ?_
 refine GoO.nil ?_
 refine GoK.code ?_
 obtain rfl := Option.some.inj H
 obtain rfl := Option.some.inj HK68
 exact GoC.retL (ds := [.v (.bool false)]) Try.results9 (ResL.cons (ResD.tmp rfl) (ResL.nil)) (Take.nil _) ⟨rfl, rfl⟩
 replace H := ite_f h76 H
 refine GoO.guardF rfl rfl rfl rfl ?_
 refine GoO.guardF rfl rfl rfl rfl ?_
 refine GoO.guardF rfl rfl rfl rfl ?_
 refine GoO.guardF rfl rfl rfl rfl ?_
 refine GoO.pure (ps_pickF rfl rfl rfl) ?_
 refine GoO.pure (ps_move rfl rfl) ?_
 refine GoO.guardT rfl rfl rfl ?_
 refine GoO.pure (ps_move rfl rfl) ?_
 refine GoO.guardT rfl rfl rfl ?_
 refine GoO.pure (ps_neq rfl rfl rfl) ?_
 refine GoO.guardT rfl rfl rfl ?_
 refine GoO.pure (ps_move rfl rfl) ?_
 refine GoO.guardD rfl rfl rfl rfl (fun h81 => ?_) (fun h81 => ?_)
 replace H := ite_t h81 H
 refine GoO.pure (ps_move rfl rfl) ?_
 refine GoO.guardT rfl rfl rfl ?_
 refine GoO.pure (ps_neq rfl rfl rfl) ?_
 refine GoO.guardT rfl rfl rfl ?_
 refine GoO.pure (ps_pickT rfl rfl rfl) ?_
 refine GoO.pure (ps_pickF rfl rfl rfl) ?_
 refine GoO.nil ?_
 refine GoK.code ?_
 refine GoC.condD rfl (fun h82 => ?_) (fun h82 => ?_)
 replace H := ite_t h82 H
 refine GoC.seq ?_
 refine GoC.region ?_
 refine GoO.pure (ps_assign rfl rfl) ?_
 refine GoO.nil ?_
 refine GoK.code ?_
 obtain rfl := Option.some.inj H
 obtain rfl := Option.some.inj HK68
 exact GoC.retL (ds := [.v (.bool false)]) Try.results9 (ResL.cons (ResD.tmp rfl) (ResL.nil)) (Take.nil _) ⟨rfl, rfl⟩
 replace H := ite_f h82 H
 refine GoC.skip ?_
 obtain rfl := Option.some.inj H
 exact GoK.meet ⟨rfl, rfl, rfl⟩ (EnvD.eq rfl (EnvD.eq rfl (EnvD.eq rfl (EnvD.eq rfl (EnvD.eq rfl (EnvD.eq rfl (EnvD.nil))))))) (TkD.cons _ _ _ _ _ Rem.p0 (HLe.refl _) (TkD.cons _ _ _ _ _ Rem.p0 (HLe.refl _) (TkD.cons _ _ _ _ _ Rem.p0 (HLe.refl _) (TkD.cons _ _ _ _ _ Rem.p0 (HLe.refl _) (TkD.nil _)))))
 replace H := ite_f h81 H
 refine GoO.guardF rfl rfl rfl rfl ?_
 refine GoO.guardT rfl rfl rfl ?_
 refine GoO.pure (ps_pickF rfl rfl rfl) ?_
 refine GoO.pure (ps_pickF rfl rfl rfl) ?_
 refine GoO.nil ?_
 refine GoK.code ?_
 refine GoC.condF rfl ?_
 refine GoC.skip ?_
 obtain rfl := Option.some.inj H
 exact GoK.meet ⟨rfl, rfl, rfl⟩ (EnvD.eq rfl (EnvD.eq rfl (EnvD.eq rfl (EnvD.eq rfl (EnvD.eq rfl (EnvD.eq rfl (EnvD.nil))))))) (TkD.cons _ _ _ _ _ Rem.p0 (HLe.refl _) (TkD.cons _ _ _ _ _ Rem.p0 (HLe.refl _) (TkD.cons _ _ _ _ _ Rem.p0 (HLe.refl _) (TkD.cons _ _ _ _ _ Rem.p0 (HLe.refl _) (TkD.nil _)))))
 replace H := itb_f h72 H
 refine GoC.skip ?_
 obtain rfl := Option.some.inj H
 exact GoK.meet ⟨rfl, rfl, rfl⟩ (EnvD.eq rfl (EnvD.eq rfl (EnvD.eq rfl (EnvD.eq rfl (EnvD.eq rfl (EnvD.eq rfl (EnvD.nil))))))) (TkD.cons _ _ _ _ _ Rem.p0 (HLe.refl _) (TkD.cons _ _ _ _ _ Rem.p0 (HLe.refl _) (TkD.cons _ _ _ _ _ Rem.p0 (HLe.refl _) (TkD.cons _ _ _ _ _ Rem.p0 (HLe.refl _) (TkD.nil _)))))
 rintro v h ⟨rfl, rfl, rfl⟩
 have H := HK68; clear HK68
 refine GoC.seq ?_
 refine GoC.seq ?_
 refine GoC.region ?_
 refine GoO.pure (ps_move rfl rfl) ?_
 refine GoO.pure (ps_neq rfl rfl rfl) ?_
 refine GoO.pure (ps_move rfl rfl) ?_
 refine GoO.guardE rfl rfl rfl rfl (fun h83 => ?_) (fun h83 => ?_)
 replace H := ite_f h83 H
 refine GoO.pure (ps_move rfl rfl) ?_
 refine GoO.guardT rfl rfl rfl ?_
 refine GoO.pure (ps_len rfl (by constructor) rfl) ?_
 refine GoO.lenLe (n := u.length) (x := .tmp 149) rfl (by constructor) sl_lenLe (fun ml84 => ?_)
 refine GoO.guardT rfl rfl rfl ?_
 refine GoO.pure (ps_move rfl rfl) ?_
 refine GoO.guardT rfl rfl rfl ?_
 refine GoO.pure (ps_len rfl (by constructor) rfl) ?_
 refine GoO.guardT rfl rfl rfl ?_
 refine GoO.pure (ps_neq rfl rfl rfl) ?_
 refine GoO.pure (ps_pickF rfl rfl rfl) ?_
 refine GoO.nil ?_
 refine GoK.code ?_
 refine GoC.condD rfl (fun h85 => ?_) (fun h85 => ?_)
 replace H := ite_t h85 H
 refine GoC.seq ?_
 refine GoC.region ?_
 refine GoO.pure (ps_assign rfl rfl) ?_
 refine GoO.nil ?_
 refine GoK.code ?_
 obtain rfl := Option.some.inj H
 exact GoC.retL (ds := [.v (.bool true)]) Try.results9 (ResL.cons (ResD.tmp rfl) (ResL.nil)) (Take.nil _) ⟨rfl, rfl⟩
 replace H := ite_f h85 H
 refine GoC.skip ?_
 refine GoK.code ?_
 refine GoC.seq ?_
 refine GoC.region ?_
 refine GoO.pure (ps_move rfl rfl) ?_
 have hb := bind_l H; clear H
 obtain ⟨⟨r86, r87⟩, e88, H⟩ := hb
 refine GoO.effC (ef_call rfl (Take.nil _) (Take.cons _ _ _ _ _ Rem.p0 (Take.cons _ _ _ _ _ Rem.p0 (Take.nil _))) (double_Check_spec g29 e88) (LendL.cons (Lend.grid (α := Int) (xs := g29) At.p0 At.p1 (by first | rfl | omega | (simp only [subl_length, cpl_length, List.length_set, List.length_append, List.length_cons, List.length_nil, List.length_replicate, row_len]; omega) | (simp only [subl_length, cpl_length, List.length_set, List.length_append, List.length_cons, List.length_nil, List.length_replicate, row_len]; done) | simp)) (LendL.nil)) rfl (double_Check_I (r86, r87))) (fun rr HH hp => ?_)
 obtain ⟨rfl, rfl⟩ := hp
 refine GoO.pure (ps_move rfl rfl) ?_
 refine GoO.pure (ps_extract rfl rfl rfl) ?_
 refine GoO.pure (ps_extract rfl rfl rfl) ?_
 refine GoO.pure (ps_assign rfl rfl) ?_
 refine GoO.pure (ps_assign rfl rfl) ?_
 refine GoO.nil ?_
 refine GoK.code ?_
 refine GoC.seq ?_
 refine GoC.region ?_
 refine GoO.pure (ps_move rfl rfl) ?_
 refine GoO.pure (ps_eql rfl rfl rfl) ?_
 refine GoO.pure (ps_move rfl rfl) ?_
 refine GoO.guardE rfl rfl rfl rfl (fun h89 => ?_) (fun h89 => ?_)
 replace H := ite_f h89 H
 refine GoO.pure (ps_move rfl rfl) ?_
 refine GoO.guardT rfl rfl rfl ?_
 refine GoO.pure (ps_eql rfl rfl rfl) ?_
 refine GoO.guardT rfl rfl rfl ?_
 refine GoO.pure (ps_move rfl rfl) ?_
 refine GoO.guardD rfl rfl rfl rfl (fun h90 => ?_) (fun h90 => ?_)
 replace H := ite_t h90 H
 refine GoO.pure (ps_move rfl rfl) ?_
 refine GoO.guardT rfl rfl rfl ?_
 refine GoO.pure (ps_move rfl rfl) ?_
 refine GoO.guardT rfl rfl rfl ?_
 refine GoO.pure (ps_move rfl rfl) ?_
 refine GoO.guardT rfl rfl rfl ?_
 have c91 := ck_l H; replace H := ck_r H
 refine GoO.pure (ps_add rfl rfl rfl c91) ?_
 refine GoO.guardT rfl rfl rfl ?_
 refine GoO.pure (ps_eql rfl rfl rfl) ?_
 refine GoO.guardT rfl rfl rfl ?_
 refine GoO.pure (ps_pickT rfl rfl rfl) ?_
 refine GoO.pure (ps_pickF rfl rfl rfl) ?_
 refine GoO.pure (ps_assign rfl rfl) ?_
 refine GoO.nil ?_
 refine GoK.code ?_
 obtain rfl := Option.some.inj H
 exact GoC.retL (ds := [.v (.bool (decide (r86 = (r4 + r7))))]) Try.results9 (ResL.cons (ResD.tmp rfl) (ResL.nil)) (Take.nil _) ⟨rfl, rfl⟩
 replace H := ite_f h90 H
 refine GoO.guardF rfl rfl rfl rfl ?_
 refine GoO.guardF rfl rfl rfl rfl ?_
 refine GoO.guardF rfl rfl rfl rfl ?_
 refine GoO.guardF rfl rfl rfl rfl ?_
 refine GoO.guardT rfl rfl rfl ?_
 refine GoO.pure (ps_pickF rfl rfl rfl) ?_
 refine GoO.pure (ps_pickF rfl rfl rfl) ?_
 refine GoO.pure (ps_assign rfl rfl) ?_
 refine GoO.nil ?_
 refine GoK.code ?_
 obtain rfl := Option.some.inj H
 exact GoC.retL (ds := [.v (.bool false)]) Try.results9 (ResL.cons (ResD.tmp rfl) (ResL.nil)) (Take.nil _) ⟨rfl, rfl⟩
 replace H := ite_t h89 H
 refine GoO.guardF rfl rfl rfl rfl ?_
 refine GoO.guardF rfl rfl rfl rfl ?_
 refine GoO.guardU rfl rfl rfl rfl ?_
 refine GoO.guardU rfl rfl rfl rfl ?_
 refine GoO.guardU rfl rfl rfl rfl ?_
 refine GoO.guardU rfl rfl rfl rfl ?_
 refine GoO.guardU rfl rfl rfl rfl ?_
 refine GoO.guardF rfl rfl rfl rfl ?_
 refine GoO.pure (ps_pickT rfl rfl rfl) ?_
 refine GoO.pure (ps_assign rfl rfl) ?_
 refine GoO.nil ?_
 refine GoK.code ?_
 obtain rfl := Option.some.inj H
 exact GoC.retL (ds := [.v (.bool true)]) Try.results9 (ResL.cons (ResD.tmp rfl) (ResL.nil)) (Take.nil _) ⟨rfl, rfl⟩
 replace H := ite_t h83 H
 refine GoO.guardF rfl rfl rfl rfl ?_
 refine GoO.guardF rfl rfl rfl rfl ?_
 refine GoO.guardF rfl rfl rfl rfl ?_
 refine GoO.guardF rfl rfl rfl rfl ?_
 refine GoO.pure (ps_pickT rfl rfl rfl) ?_
 refine GoO.nil ?_
 refine GoK.code ?_
 refine GoC.condT rfl ?_
 refine GoC.seq ?_
 refine GoC.region ?_
 refine GoO.pure (ps_assign rfl rfl) ?_
 refine GoO.nil ?_
 refine GoK.code ?_
 obtain rfl := Option.some.inj H
 exact GoC.retL (ds := [.v (.bool true)]) Try.results9 (ResL.cons (ResD.tmp rfl) (ResL.nil)) (Take.nil _) ⟨rfl, rfl⟩
 replace H := ite_t h10 H
 refine GoO.guardF rfl rfl rfl rfl ?_
 refine GoO.guardF rfl rfl rfl rfl ?_
 refine GoO.pure (ps_pickT rfl rfl rfl) ?_
 refine GoO.nil ?_
 refine GoK.code ?_
 refine GoC.condT rfl ?_
 refine GoC.seq ?_
 refine GoC.region ?_
 refine GoO.pure (ps_move rfl rfl) ?_
 refine GoO.pure (ps_eql rfl rfl rfl) ?_
 refine GoO.pure (ps_assign rfl rfl) ?_
 refine GoO.nil ?_
 refine GoK.code ?_
 obtain rfl := Option.some.inj H
 exact GoC.retL (ds := [.v (.bool (decide (r4 = 0)))]) Try.results9 (ResL.cons (ResD.tmp rfl) (ResL.nil)) (Take.nil _) ⟨rfl, rfl⟩

end Go.Proofs.Ytkpdkigkhbkfiaa
