/- The functions weirkeep.SpanCut, told as plain functions, and that the code does as they say. -/
import Derived.Test.YtkpdkigkhbkfiaaTys
import Derived.Test.YtkpdkigkhbkfiaaDat
import Derived.Test.YtkpdkigkhbkfiaaGkeep
import Derived.Test.YtkpdkigkhbkfiaaGslices
import Derived.Test.YtkpdkigkhbkfiaaGspan
namespace Go.Proofs.Ytkpdkigkhbkfiaa
open Go Go.Proofs.Ytkpdkigkhbkfiaa.Sx
set_option linter.unusedVariables false
set_option linter.unusedSimpArgs false
def weirkeep_SpanCut_B1 (g : Graph) (set_ : Int) : Nat → Int → Option (Int) := fun k18 x13 =>
 ck (0 ≤ ((g.as.getD k18 El.d).f)) <|
 ck (0 ≤ ((g.as.getD k18 El.d).t)) <|
 if (bitsOf .and .u16 (Int.fdiv set_ (2 ^ min (((g.as.getD k18 El.d).f).toNat) 16)) 1) ≠ (bitsOf .and .u16 (Int.fdiv set_ (2 ^ min (((g.as.getD k18 El.d).t).toNat) 16)) 1) then
  if x13 < 0 then
   some ((k18 : Nat) : Int)
  else
   ck (0 ≤ x13 ∧ x13 < ((g.as.length : Nat) : Int)) <|
   if ((g.as.getD k18 El.d).c) < ((g.as.getD x13.toNat El.d).c) then
    some ((k18 : Nat) : Int)
   else
    some x13
 else
  some x13
def weirkeep_SpanCut_F (g : Graph) (set_ : Int) : Option (Bool) :=
 (weirkeep_spans_F).bind fun r2 =>
 if (!r2) = true then
  some false
 else
  (span_Least_F g).bind fun (r5, r7, r8) =>
  if r8 ≠ 0 then
   some (decide (((r5.length : Nat) : Int) = 0))
  else
   (forN (weirkeep_SpanCut_B1 g set_) g.as.length 0 (-1)).bind fun x17 =>
   if x17 < 0 then
    some true
   else
    (slices_Contains_int_F r5 x17).bind fun r29 =>
    some r29
def weirkeep_SpanCut_P (out : Bool) (d : D) (H : List HL) : Prop := d = .v (.bool out) ∧ H = []
theorem weirkeep_SpanCut_I (out : Bool) : IndepP (weirkeep_SpanCut_P out) := IndepP.of (by rintro _ _ ⟨rfl, rfl⟩; exact ⟨inferInstance, inferInstance⟩)
set_option maxRecDepth 100000 in
set_option maxHeartbeats 4000000 in
theorem weirkeep_SpanCut_spec (g : Graph) (set_ : Int) {out : Bool} (H : weirkeep_SpanCut_F g set_ = some out) : Does Try.prog 3 [.ag 2 (nth [.v (.int .i64 g.n), slD g.as]), .v (.int .u16 set_)] [] (weirkeep_SpanCut_P out) := by
 unfold weirkeep_SpanCut_F at H
 refine Does.intro Try.func3 rfl Try.ntmps3 rfl fun w0 I0 => ?_
 refine GoC.seq ?_
 refine GoC.region ?_
 refine GoO.effB (ef_boxAg rfl rfl) (fun β1 => ?_)
 refine GoO.pure (ps_assign rfl rfl) ?_
 refine GoO.nil ?_
 refine GoK.code ?_
 refine GoC.seq ?_
 refine GoC.seq ?_
 refine GoC.region ?_
 have hb := bind_l H; clear H
 obtain ⟨r2, e3, H⟩ := hb
 refine GoO.effC (ef_call rfl (Take.nil _) (Take.nil _) (weirkeep_spans_spec e3) (LendL.nil) rfl (weirkeep_spans_I (r2))) (fun rr HH hp => ?_)
 obtain ⟨rfl, rfl⟩ := hp
 refine GoO.pure (ps_not rfl rfl) ?_
 refine GoO.nil ?_
 refine GoK.code ?_
 refine GoC.cond rfl (fun h4 => ?_) (fun h4 => ?_)
 replace H := itb_t h4 H
 refine GoC.seq ?_
 refine GoC.region ?_
 refine GoO.pure (ps_assign rfl rfl) ?_
 refine GoO.nil ?_
 refine GoK.code ?_
 obtain rfl := Option.some.inj H
 exact GoC.retL (ds := [.v (.bool false)]) Try.results3 (ResL.cons (ResD.tmp rfl) (ResL.nil)) (Take.nil _) ⟨rfl, rfl⟩
 replace H := itb_f h4 H
 refine GoC.skip ?_
 refine GoK.code ?_
 refine GoC.seq ?_
 refine GoC.region ?_
 refine GoO.pure (ps_loadAg rfl At.p0 At.p0 Nat.zero_lt_one rfl rfl) ?_
 have hb := bind_l H; clear H
 obtain ⟨⟨r5, r7, r8⟩, e9, H⟩ := hb
 refine GoO.effC (ef_call rfl (Take.nil _) (Take.nil _) (span_Least_spec g e9) (LendL.cons (Lend.agA ⟨⟨trivial, Lend.refl _ _⟩, Lend.refl _ _⟩) (LendL.nil)) rfl (span_Least_I (r5, r7, r8))) (fun rr HH hp => ?_)
 obtain ⟨β6, rfl, rfl⟩ := hp
 refine GoO.pure (ps_move rfl rfl) ?_
 refine GoO.pure (ps_extract rfl rfl rfl) ?_
 refine GoO.pure (ps_extract rfl rfl rfl) ?_
 refine GoO.pure (ps_extract rfl rfl rfl) ?_
 refine GoO.pure (ps_assign rfl rfl) ?_
 refine GoO.pure (ps_assign rfl rfl) ?_
 refine GoO.pure (ps_assign rfl rfl) ?_
 refine GoO.nil ?_
 refine GoK.code ?_
 refine GoC.seq ?_
 refine GoC.seq ?_
 refine GoC.region ?_
 refine GoO.pure (ps_move rfl rfl) ?_
 refine GoO.pure (ps_neq rfl rfl rfl) ?_
 refine GoO.nil ?_
 refine GoK.code ?_
 refine GoC.condD rfl (fun h10 => ?_) (fun h10 => ?_)
 replace H := ite_t h10 H
 refine GoC.seq ?_
 refine GoC.region ?_
 refine GoO.pure (ps_move rfl rfl) ?_
 refine GoO.pure (ps_len rfl (by constructor) rfl) ?_
 refine GoO.lenLe (n := r5.length) (x := .tmp 21) rfl (by constructor) own_lenLe (fun ml11 => ?_)
 refine GoO.pure (ps_eql rfl rfl rfl) ?_
 refine GoO.pure (ps_assign rfl rfl) ?_
 refine GoO.nil ?_
 refine GoK.code ?_
 obtain rfl := Option.some.inj H
 exact GoC.retL (ds := [.v (.bool (decide (((r5.length : Nat) : Int) = 0)))]) Try.results3 (ResL.cons (ResD.tmp rfl) (ResL.nil)) (Take.nil _) ⟨rfl, rfl⟩
 replace H := ite_f h10 H
 refine GoC.skip ?_
 refine GoK.code ?_
 refine GoC.seq ?_
 refine GoC.region ?_
 refine GoO.pure (ps_assign rfl rfl) ?_
 refine GoO.nil ?_
 refine GoK.code ?_
 refine GoC.seq ?_
 refine GoC.seq ?_
 refine GoC.region ?_
 refine GoO.pure (ps_fieldAddr rfl rfl) ?_
 refine GoO.pure (ps_load rfl At.p1 At.p1 Nat.zero_lt_one rfl rfl) ?_
 refine GoO.pure (ps_len rfl (by constructor) rfl) ?_
 refine GoO.lenLe (n := g.as.length) (x := .tmp 25) rfl (by constructor) sl_lenLe (fun ml12 => ?_)
 refine GoO.pure (ps_move rfl rfl) ?_
 refine GoO.nil ?_
 refine GoK.code ?_
 have hb := bind_l H; clear H
 obtain ⟨x17, hl27, HK14⟩ := hb
 refine GoC.blockJ [(5, .own β6 1 0 r5.length)] [.one β6 3 1 (row r5), .one β1 24 2 (st1 (nth [.v (.int .i64 g.n), slD g.as]))] (fun v h => v = [(8, .v (.int .i64 x17))] ∧ h = []) ?_ ?_
 refine GoC.loopJ [(1, _), (2, _), (5, _), (25, _), (26, _)] [.one β6 3 1 (row r5), .one β1 24 2 (st1 (nth [.v (.int .i64 g.n), slD g.as]))] (fun mQ v h => ∃ (k18 : Nat) (x13 : Int), (k18 + mQ = g.as.length ∧ forN (weirkeep_SpanCut_B1 g set_) mQ k18 x13 = some x17) ∧ v = [(27, .v (.int .i64 ((k18 : Nat) : Int))), (8, .v (.int .i64 x13))] ∧ h = []) g.as.length ⟨_, _, ⟨by omega, hl27⟩, rfl, rfl⟩ (EnvD.eq rfl (EnvD.eq rfl (EnvD.eq rfl (EnvD.eq rfl (EnvD.eq rfl (EnvD.eq rfl (EnvD.eq rfl (EnvD.nil)))))))) (TkD.cons _ _ _ _ _ Rem.p0 (HLe.refl _) (TkD.cons _ _ _ _ _ Rem.p0 (HLe.st ⟨⟨trivial, DLe.refl _⟩, DLe.refl _⟩) (TkD.nil _))) ?_
 rintro m19 v h ⟨k18, x13, ⟨hkk18, hF15⟩, rfl, rfl⟩
 refine GoC.seq ?_
 refine GoC.region ?_
 refine GoO.pure (ps_lss rfl rfl rfl) ?_
 refine GoO.nil ?_
 refine GoK.code ?_
 refine GoC.seq ?_
 refine GoC.condD rfl (fun (hk18 : (k18 : Int) < ((g.as.length : Nat) : Int)) => ?_) (fun (hk18 : ¬ (k18 : Int) < ((g.as.length : Nat) : Int)) => ?_)
 obtain ⟨m19', rfl⟩ : ∃ x, m19 = x + 1 := ⟨m19 - 1, by omega⟩
 have hb := bind_l hF15; clear hF15
 obtain ⟨qrm19, H, hF15⟩ := hb
 have hnk18 : k18 < g.as.length := by omega
 have hIk18 : InI ((k18 : Int) + 1) := inI_len hk18 ml12
 refine GoC.skip ?_
 refine GoK.code ?_
 refine GoC.seq ?_
 refine GoC.block ?_
 refine GoC.seq ?_
 refine GoC.region ?_
 refine GoO.pure (ps_move rfl rfl) ?_
 refine GoO.pure (ps_indexAddrRN rfl rfl hnk18 rfl) ?_
 refine GoO.pure (ps_loadAgR rfl hnk18 rfl rfl) ?_
 refine GoO.effB (ef_alloc rfl) (fun β20 => ?_)
 refine GoO.pure (ps_assign rfl rfl) ?_
 refine GoO.eff1 (ef_storeAg rfl rfl At.p0 upd_whole Nat.zero_lt_one rfl) ?_
 refine GoO.nil ?_
 refine GoK.code ?_
 refine GoC.seq ?_
 refine GoC.drawA (.q 0 (.q 1 (.q 2 (.q 3 (.q 4 (.q 5 (.q 6 (.q 7 (.q 8 (.q 9 (.q 10 (.q 11 (.q 12 (.q 13 (.q 14 (.q 15 (.q 16 (.q 17 (.q 18 (.q 19 (.q 20 (.q 21 (.q 22 (.q 23 (.q 24 (.q 25 (.done))))))))))))))))))))))))))) follows (by kernel_rfl) ?_
 refine GoP.qN rfl (ps_move rfl rfl) ?_
 refine GoP.qN rfl (ps_fieldAddr rfl rfl) ?_
 refine GoP.qN rfl (ps_load rfl At.p0 At.p0 Nat.zero_lt_one rfl rfl) ?_
 have c21 := ck_l H; replace H := ck_r H
 refine GoP.qN rfl (ps_shr rfl rfl rfl c21) ?_
 refine GoP.qN rfl (ps_and rfl rfl rfl) ?_
 refine GoP.qN rfl (ps_move rfl rfl) ?_
 refine GoP.qN rfl (ps_fieldAddr rfl rfl) ?_
 refine GoP.qN rfl (ps_load rfl At.p0 At.p0 Nat.zero_lt_one rfl rfl) ?_
 have c22 := ck_l H; replace H := ck_r H
 refine GoP.qN rfl (ps_shr rfl rfl rfl c22) ?_
 refine GoP.qN rfl (ps_and rfl rfl rfl) ?_
 refine GoP.qN rfl (ps_neq rfl rfl rfl) ?_
 refine GoP.qN rfl (ps_move rfl rfl) ?_
 refine GoP.decideD 43 rfl (fun h23 => ?_) (fun h23 => ?_)
 replace H := ite_t h23 H
 refine GoP.qT rfl rfl rfl rfl (ps_move rfl rfl) ?_
 refine GoP.qT rfl rfl rfl rfl (ps_lss rfl rfl rfl) ?_
 refine GoP.qT rfl rfl rfl rfl (ps_move rfl rfl) ?_
 refine GoP.decideD 46 rfl (fun h24 => ?_) (fun h24 => ?_)
 replace H := ite_t h24 H
 refine GoP.qF rfl rfl rfl rfl rfl ?_
 refine GoP.qF rfl rfl rfl rfl rfl ?_
 refine GoP.qF rfl rfl rfl rfl rfl ?_
 refine GoP.qF rfl rfl rfl rfl rfl ?_
 refine GoP.qF rfl rfl rfl rfl rfl ?_
 refine GoP.qF rfl rfl rfl rfl rfl ?_
 refine GoP.qF rfl rfl rfl rfl rfl ?_
 refine GoP.qF rfl rfl rfl rfl rfl ?_
 refine GoP.qF rfl rfl rfl rfl rfl ?_
 refine GoP.qT rfl rfl rfl rfl (ps_pickT rfl rfl rfl) ?_
 refine GoP.qN rfl (ps_pickT rfl rfl rfl) ?_
 refine GoP.done ?_
 refine GoK.code ?_
 refine GoC.condT rfl ?_
 refine GoC.region ?_
 refine GoO.pure (ps_move rfl rfl) ?_
 refine GoO.pure (ps_assign rfl rfl) ?_
 refine GoO.nil ?_
 refine GoK.blk ?_
 refine GoK.code ?_
 refine GoC.region ?_
 refine GoO.pure (ps_add rfl rfl rfl hIk18) ?_
 refine GoO.pure (ps_move rfl rfl) ?_
 refine GoO.nil ?_
 obtain rfl := Option.some.inj H
 exact GoK.againJ m19' (by omega) ⟨_, _, ⟨by omega, hF15⟩, rfl, rfl⟩ (EnvD.eq rfl (EnvD.eq rfl (EnvD.eq rfl (EnvD.eq rfl (EnvD.eq rfl (EnvD.eq rfl (EnvD.eq rfl (EnvD.nil)))))))) (TkD.cons _ _ _ _ _ Rem.p1 (HLe.refl _) (TkD.cons _ _ _ _ _ Rem.p1 (HLe.st ⟨⟨trivial, DLe.refl _⟩, DLe.refl _⟩) (TkD.nil _)))
 replace H := ite_f h24 H
 refine GoP.qT rfl rfl rfl rfl (ps_fieldAddr rfl rfl) ?_
 refine GoP.qT rfl rfl rfl rfl (ps_load rfl At.p0 At.p0 Nat.zero_lt_one rfl rfl) ?_
 refine GoP.qT rfl rfl rfl rfl (ps_fieldAddr rfl rfl) ?_
 refine GoP.qT rfl rfl rfl rfl (ps_load rfl At.p2 At.p2 Nat.zero_lt_one rfl rfl) ?_
 refine GoP.qT rfl rfl rfl rfl (ps_move rfl rfl) ?_
 have c25 := ck_l H; replace H := ck_r H
 refine GoP.qT rfl rfl rfl rfl (ps_indexAddrR rfl rfl c25 rfl) ?_
 refine GoP.qT rfl rfl rfl rfl (ps_fieldAddrR rfl rfl) ?_
 refine GoP.qT rfl rfl rfl rfl (ps_loadR rfl (idx_lt c25) rfl rfl) ?_
 refine GoP.qT rfl rfl rfl rfl (ps_lss rfl rfl rfl) ?_
 refine GoP.qT rfl rfl rfl rfl (ps_pickF rfl rfl rfl) ?_
 refine GoP.qN rfl (ps_pickT rfl rfl rfl) ?_
 refine GoP.done ?_
 refine GoK.code ?_
 refine GoC.condD rfl (fun h26 => ?_) (fun h26 => ?_)
 replace H := ite_t h26 H
 refine GoC.region ?_
 refine GoO.pure (ps_move rfl rfl) ?_
 refine GoO.pure (ps_assign rfl rfl) ?_
 refine GoO.nil ?_
 refine GoK.blk ?_
 refine GoK.code ?_
 refine GoC.region ?_
 refine GoO.pure (ps_add rfl rfl rfl hIk18) ?_
 refine GoO.pure (ps_move rfl rfl) ?_
 refine GoO.nil ?_
 obtain rfl := Option.some.inj H
 exact GoK.againJ m19' (by omega) ⟨_, _, ⟨by omega, hF15⟩, rfl, rfl⟩ (EnvD.eq rfl (EnvD.eq rfl (EnvD.eq rfl (EnvD.eq rfl (EnvD.eq rfl (EnvD.eq rfl (EnvD.eq rfl (EnvD.nil)))))))) (TkD.cons _ _ _ _ _ Rem.p1 (HLe.refl _) (TkD.cons _ _ _ _ _ Rem.p1 (HLe.st ⟨⟨trivial, DLe.refl _⟩, DLe.refl _⟩) (TkD.nil _)))
 replace H := ite_f h26 H
 refine GoC.skip ?_
 refine GoK.blk ?_
 refine GoK.code ?_
 refine GoC.region ?_
 refine GoO.pure (ps_add rfl rfl rfl hIk18) ?_
 refine GoO.pure (ps_move rfl rfl) ?_
 refine GoO.nil ?_
 obtain rfl := Option.some.inj H
 exact GoK.againJ m19' (by omega) ⟨_, _, ⟨by omega, hF15⟩, rfl, rfl⟩ (EnvD.eq rfl (EnvD.eq rfl (EnvD.eq rfl (EnvD.eq rfl (EnvD.eq rfl (EnvD.eq rfl (EnvD.eq rfl (EnvD.nil)))))))) (TkD.cons _ _ _ _ _ Rem.p1 (HLe.refl _) (TkD.cons _ _ _ _ _ Rem.p1 (HLe.st ⟨⟨trivial, DLe.refl _⟩, DLe.refl _⟩) (TkD.nil _)))
 replace H := ite_f h23 H
 refine GoP.qF rfl rfl rfl rfl rfl ?_
 refine GoP.qF rfl rfl rfl rfl rfl ?_
 refine GoP.qF rfl rfl rfl rfl rfl ?_
 refine GoP.qU rfl rfl rfl rfl rfl ?_
 refine GoP.qU rfl rfl rfl rfl rfl ?_
 refine GoP.qU rfl rfl rfl rfl rfl ?_
 refine GoP.qU rfl rfl rfl rfl rfl ?_
 refine GoP.qU rfl rfl rfl rfl rfl ?_
 refine GoP.qU rfl rfl rfl rfl rfl ?_
 refine GoP.qU rfl rfl rfl rfl rfl ?_
 refine GoP.qU rfl rfl rfl rfl rfl ?_
 refine GoP.qU rfl rfl rfl rfl rfl ?_
 refine GoP.qF rfl rfl rfl rfl rfl ?_
 refine GoP.qN rfl (ps_pickF rfl rfl rfl) ?_
 refine GoP.done ?_
 refine GoK.code ?_
 refine GoC.condF rfl ?_
 refine GoC.skip ?_
 refine GoK.blk ?_
 refine GoK.code ?_
 refine GoC.region ?_
 refine GoO.pure (ps_add rfl rfl rfl hIk18) ?_
 refine GoO.pure (ps_move rfl rfl) ?_
 refine GoO.nil ?_
 obtain rfl := Option.some.inj H
 exact GoK.againJ m19' (by omega) ⟨_, _, ⟨by omega, hF15⟩, rfl, rfl⟩ (EnvD.eq rfl (EnvD.eq rfl (EnvD.eq rfl (EnvD.eq rfl (EnvD.eq rfl (EnvD.eq rfl (EnvD.eq rfl (EnvD.nil)))))))) (TkD.cons _ _ _ _ _ Rem.p1 (HLe.refl _) (TkD.cons _ _ _ _ _ Rem.p1 (HLe.st ⟨⟨trivial, DLe.refl _⟩, DLe.refl _⟩) (TkD.nil _)))
 obtain rfl : m19 = 0 := by omega
 refine GoC.exit rfl ?_
 cases hF15
 exact GoK.meet ⟨rfl, rfl⟩ (EnvD.eq rfl (EnvD.eq rfl (EnvD.nil))) (TkD.cons _ _ _ _ _ Rem.p0 (HLe.refl _) (TkD.cons _ _ _ _ _ Rem.p0 (HLe.st ⟨⟨trivial, DLe.refl _⟩, DLe.refl _⟩) (TkD.nil _)))
 rintro v h ⟨rfl, rfl⟩
 have H := HK14; clear HK14
 refine GoK.code ?_
 refine GoC.seq ?_
 refine GoC.region ?_
 refine GoO.pure (ps_move rfl rfl) ?_
 refine GoO.pure (ps_lss rfl rfl rfl) ?_
 refine GoO.pure (ps_move rfl rfl) ?_
 refine GoO.guardE rfl rfl rfl rfl (fun h28 => ?_) (fun h28 => ?_)
 replace H := ite_f h28 H
 refine GoO.pure (ps_move rfl rfl) ?_
 refine GoO.guardT rfl rfl rfl ?_
 refine GoO.pure (ps_move rfl rfl) ?_
 refine GoO.guardT rfl rfl rfl ?_
 have hb := bind_l H; clear H
 obtain ⟨r29, e30, H⟩ := hb
 refine GoO.effC (ef_call rfl (Take.nil _) (Take.cons _ _ _ _ _ Rem.p0 (Take.nil _)) (slices_Contains_int_spec r5 x17 e30) (LendL.cons (Lend.all' At.p0 (by first | rfl | omega | (simp only [subl_length, cpl_length, List.length_set, List.length_append, List.length_cons, List.length_nil, List.length_replicate, row_len] <;> first | rfl | omega)) rfl) (LendL.cons (Lend.refl _ _) (LendL.nil))) rfl (slices_Contains_int_I (r29))) (fun rr HH hp => ?_)
 obtain ⟨rfl, rfl⟩ := hp
 refine GoO.pure (ps_pickF rfl rfl rfl) ?_
 refine GoO.pure (ps_assign rfl rfl) ?_
 refine GoO.nil ?_
 refine GoK.code ?_
 obtain rfl := Option.some.inj H
 exact GoC.retL (ds := [.v (.bool r29)]) Try.results3 (ResL.cons (ResD.tmp rfl) (ResL.nil)) (Take.nil _) ⟨rfl, rfl⟩
 replace H := ite_t h28 H
 refine GoO.guardF rfl rfl rfl rfl ?_
 refine GoO.guardF rfl rfl rfl rfl ?_
 refine GoO.pure (ps_pickT rfl rfl rfl) ?_
 refine GoO.pure (ps_assign rfl rfl) ?_
 refine GoO.nil ?_
 refine GoK.code ?_
 obtain rfl := Option.some.inj H
 exact GoC.retL (ds := [.v (.bool true)]) Try.results3 (ResL.cons (ResD.tmp rfl) (ResL.nil)) (Take.nil _) ⟨rfl, rfl⟩

end Go.Proofs.Ytkpdkigkhbkfiaa
