/- The functions least.order, least.Of, told as plain functions, and that the code does as they say. -/
import Derived.Test.YtdpkdicciclobaaTys
import Derived.Test.YtdpkdicciclobaaDat
import Derived.Test.YtdpkdicciclobaaGpairs
namespace Go.Proofs.Ytdpkdicciclobaa
open Go Go.Proofs.Ytdpkdicciclobaa.Sx
set_option linter.unusedVariables false
set_option linter.unusedSimpArgs false
def least_order_B2 (nodes : (List Int)) (f4 : (Nat → Int)) (f5 : (Nat → Bool)) : Nat → Int → Option (Int) := fun k22 x17 =>
 ck (0 ≤ (nodes.getD k22 (0 : Int)) ∧ (nodes.getD k22 (0 : Int)) < 12) <|
 if (!(f5 ((nodes.getD k22 (0 : Int)).toNat))) = true then
  if x17 < 0 then
   some (nodes.getD k22 (0 : Int))
  else
   ck (0 ≤ x17 ∧ x17 < 12) <|
   if (f4 x17.toNat) < (f4 ((nodes.getD k22 (0 : Int)).toNat)) then
    some (nodes.getD k22 (0 : Int))
   else
    some x17
 else
  some x17
def least_order_B3 (nodes : (List Int)) (w_ : (Nat → Int)) (f5 : (Nat → Bool)) (x21 : Int) : Nat → (Nat → Int) → Option ((Nat → Int)) := fun k36 f31 =>
 ck (0 ≤ (nodes.getD k36 (0 : Int)) ∧ (nodes.getD k36 (0 : Int)) < 12) <|
 if (!((updF f5 x21.toNat true) ((nodes.getD k36 (0 : Int)).toNat))) = true then
  ck (InI ((f31 ((nodes.getD k36 (0 : Int)).toNat)) + (w_ ((x21.toNat * 12) + (nodes.getD k36 (0 : Int)).toNat)))) <|
  some (updF f31 ((nodes.getD k36 (0 : Int)).toNat) ((f31 ((nodes.getD k36 (0 : Int)).toNat)) + (w_ ((x21.toNat * 12) + (nodes.getD k36 (0 : Int)).toNat))))
 else
  some f31
def least_order_B1 (nodes : (List Int)) (w_ : (Nat → Int)) : Nat → ((Nat → Int) × (Nat → Bool) × Int × Int) → Option ((Nat → Int) × (Nat → Bool) × Int × Int) := fun k15 (f4, f5, x6, x7) =>
 (forN (least_order_B2 nodes f4 f5) nodes.length 0 (-1)).bind fun x21 =>
 ck (0 ≤ x21 ∧ x21 < 12) <|
 (forN (least_order_B3 nodes w_ f5 x21) nodes.length 0 f4).bind fun f35 =>
 some (f35, (updF f5 x21.toNat true), x21, x6)
def least_order_F (nodes : (List Int)) (w_ : (Nat → Int)) : Option (Int × Int × Int × (Nat → Int)) :=
 (forN (least_order_B1 nodes w_) nodes.length 0 ((fun _ => (0 : Int) : Nat → Int), (fun _ => false : Nat → Bool), (-1), (-1))).bind fun (f11, f12, x13, x14) =>
 ck (0 ≤ x13 ∧ x13 < 12) <|
 some (x13, x14, (f11 x13.toNat), w_)
def least_order_P (out : Int × Int × Int × (Nat → Int)) (βw_ : BK) (d : D) (H : List HL) : Prop := d = .tp 3 (nth [.v (.int .i64 out.1), .v (.int .i64 out.2.1), .v (.int .i64 out.2.2.1)]) ∧ H = [.one βw_ 109 144 (arrC (α := Int) [] out.2.2.2)]
theorem least_order_I (out : Int × Int × Int × (Nat → Int)) (βw_ : BK) : IndepP (least_order_P out βw_) := IndepP.of (by rintro _ _ ⟨rfl, rfl⟩; exact ⟨inferInstance, inferInstance⟩)
set_option maxRecDepth 100000 in
set_option maxHeartbeats 4000000 in
theorem least_order_spec (nodes : (List Int)) (w_ : (Nat → Int)) (βw_ : BK) {out : Int × Int × Int × (Nat → Int)} (H : least_order_F nodes w_ = some out) : Does Try.prog 80 [slD nodes, .ptr βw_ 144 0 0] [.one βw_ 109 144 (arrC (α := Int) [] w_)] (least_order_P out βw_) := by
 unfold least_order_F at H
 refine Does.intro Try.func80 rfl Try.ntmps80 rfl fun w0 I0 => ?_
 refine GoC.seq ?_
 refine GoC.region ?_
 refine GoO.pure (ps_assign rfl rfl) ?_
 refine GoO.pure (ps_assign rfl rfl) ?_
 refine GoO.pure (ps_assign rfl rfl) ?_
 refine GoO.nil ?_
 refine GoK.code ?_
 refine GoC.seq ?_
 refine GoC.region ?_
 refine GoO.effB (ef_alloc rfl) (fun β1 => ?_)
 refine GoO.le (Le.reH At.p0 (HLe.arr (α := Int) (pre := []) (g := fun _ => (0 : Int)) ⟨⟨⟨⟨⟨⟨⟨⟨⟨⟨⟨⟨trivial, DLe.refl _⟩, DLe.refl _⟩, DLe.refl _⟩, DLe.refl _⟩, DLe.refl _⟩, DLe.refl _⟩, DLe.refl _⟩, DLe.refl _⟩, DLe.refl _⟩, DLe.refl _⟩, DLe.refl _⟩, DLe.refl _⟩)) ?_
 refine GoO.nil ?_
 refine GoK.code ?_
 refine GoC.seq ?_
 refine GoC.region ?_
 refine GoO.effB (ef_alloc rfl) (fun β2 => ?_)
 refine GoO.le (Le.reH At.p0 (HLe.arr (α := Bool) (pre := []) (g := fun _ => false) ⟨⟨⟨⟨⟨⟨⟨⟨⟨⟨⟨⟨trivial, DLe.refl _⟩, DLe.refl _⟩, DLe.refl _⟩, DLe.refl _⟩, DLe.refl _⟩, DLe.refl _⟩, DLe.refl _⟩, DLe.refl _⟩, DLe.refl _⟩, DLe.refl _⟩, DLe.refl _⟩, DLe.refl _⟩)) ?_
 refine GoO.nil ?_
 refine GoK.code ?_
 refine GoC.seq ?_
 refine GoC.region ?_
 refine GoO.pure (ps_assign rfl rfl) ?_
 refine GoO.pure (ps_assign rfl rfl) ?_
 refine GoO.nil ?_
 refine GoK.code ?_
 refine GoC.seq ?_
 refine GoC.seq ?_
 refine GoC.region ?_
 refine GoO.pure (ps_move rfl rfl) ?_
 refine GoO.pure (ps_len rfl (by constructor) rfl) ?_
 refine GoO.lenLe (n := nodes.length) (x := .tmp 16) rfl (by constructor) sl_lenLe (fun ml3 => ?_)
 refine GoO.pure (ps_move rfl rfl) ?_
 refine GoO.nil ?_
 refine GoK.code ?_
 have hb := bind_l H; clear H
 obtain ⟨⟨f11, f12, x13, x14⟩, hl42, HK8⟩ := hb
 refine GoC.blockJ [] [.one βw_ 109 144 (arrC (α := Int) [] w_)] (fun v h => v = [(7, .ptr β1 12 0 0), (9, .v (.int .i64 x13)), (10, .v (.int .i64 x14))] ∧ h = [.one β1 98 12 (arrC (α := Int) [] f11), .one β2 136 12 (arrC (α := Bool) [] f12)]) ?_ ?_
 refine GoC.loopJ [(0, _), (1, _), (17, _)] [.one βw_ 109 144 (arrC (α := Int) [] w_)] (fun mQ v h => ∃ (k15 : Nat) (f4 : (Nat → Int)) (f5 : (Nat → Bool)) (x6 : Int) (x7 : Int), (k15 + mQ = nodes.length ∧ forN (least_order_B1 nodes w_) mQ k15 (f4, f5, x6, x7) = some (f11, f12, x13, x14)) ∧ v = [(18, .v (.int .i64 ((k15 : Nat) : Int))), (7, .ptr β1 12 0 0), (8, .ptr β2 12 0 0), (9, .v (.int .i64 x6)), (10, .v (.int .i64 x7))] ∧ h = [.one β1 98 12 (arrC (α := Int) [] f4), .one β2 136 12 (arrC (α := Bool) [] f5)]) nodes.length ⟨_, _, _, _, _, ⟨by omega, hl42⟩, rfl, rfl⟩ (EnvD.eq rfl (EnvD.eq rfl (EnvD.eq rfl (EnvD.eq rfl (EnvD.eq rfl (EnvD.eq rfl (EnvD.eq rfl (EnvD.eq rfl (EnvD.nil))))))))) (TkD.cons _ _ _ _ _ Rem.p1 (HLe.refl _) (TkD.cons _ _ _ _ _ Rem.p0 (HLe.refl _) (TkD.cons _ _ _ _ _ Rem.p0 (HLe.refl _) (TkD.nil _)))) ?_
 rintro m16 v h ⟨k15, f4, f5, x6, x7, ⟨hkk15, hF9⟩, rfl, rfl⟩
 refine GoC.seq ?_
 refine GoC.region ?_
 refine GoO.pure (ps_lss rfl rfl rfl) ?_
 refine GoO.nil ?_
 refine GoK.code ?_
 refine GoC.seq ?_
 refine GoC.condD rfl (fun (hk15 : (k15 : Int) < ((nodes.length : Nat) : Int)) => ?_) (fun (hk15 : ¬ (k15 : Int) < ((nodes.length : Nat) : Int)) => ?_)
 obtain ⟨m16', rfl⟩ : ∃ x, m16 = x + 1 := ⟨m16 - 1, by omega⟩
 have hb := bind_l hF9; clear hF9
 obtain ⟨qrm16, H, hF9⟩ := hb
 have hnk15 : k15 < nodes.length := by omega
 have hIk15 : InI ((k15 : Int) + 1) := inI_len hk15 ml3
 refine GoC.skip ?_
 refine GoK.code ?_
 refine GoC.seq ?_
 refine GoC.block ?_
 refine GoC.seq ?_
 refine GoC.region ?_
 refine GoO.pure (ps_assign rfl rfl) ?_
 refine GoO.nil ?_
 refine GoK.code ?_
 refine GoC.seq ?_
 refine GoC.seq ?_
 refine GoC.region ?_
 refine GoO.pure (ps_move rfl rfl) ?_
 refine GoO.pure (ps_len rfl (by constructor) rfl) ?_
 refine GoO.pure (ps_move rfl rfl) ?_
 refine GoO.nil ?_
 refine GoK.code ?_
 have hb := bind_l H; clear H
 obtain ⟨x21, hl29, HK18⟩ := hb
 refine GoC.blockJ [(0, slD nodes), (1, .ptr βw_ 144 0 0), (7, .ptr β1 12 0 0), (8, .ptr β2 12 0 0), (9, .v (.int .i64 x6)), (17, .v (.int .i64 ((nodes.length : Nat) : Int))), (18, .v (.int .i64 ((k15 : Nat) : Int)))] [.one β1 98 12 (arrC (α := Int) [] f4), .one β2 136 12 (arrC (α := Bool) [] f5), .one βw_ 109 144 (arrC (α := Int) [] w_)] (fun v h => v = [(11, .v (.int .i64 x21))] ∧ h = []) ?_ ?_
 refine GoC.loopJ [(0, _), (1, _), (7, _), (8, _), (9, _), (17, _), (18, _), (20, _), (21, _)] [.one β1 98 12 (arrC (α := Int) [] f4), .one β2 136 12 (arrC (α := Bool) [] f5), .one βw_ 109 144 (arrC (α := Int) [] w_)] (fun mQ v h => ∃ (k22 : Nat) (x17 : Int), (k22 + mQ = nodes.length ∧ forN (least_order_B2 nodes f4 f5) mQ k22 x17 = some x21) ∧ v = [(22, .v (.int .i64 ((k22 : Nat) : Int))), (11, .v (.int .i64 x17))] ∧ h = []) nodes.length ⟨_, _, ⟨by omega, hl29⟩, rfl, rfl⟩ (EnvD.eq rfl (EnvD.eq rfl (EnvD.eq rfl (EnvD.eq rfl (EnvD.eq rfl (EnvD.eq rfl (EnvD.eq rfl (EnvD.eq rfl (EnvD.eq rfl (EnvD.eq rfl (EnvD.eq rfl (EnvD.nil)))))))))))) (TkD.cons _ _ _ _ _ Rem.p0 (HLe.refl _) (TkD.cons _ _ _ _ _ Rem.p0 (HLe.refl _) (TkD.cons _ _ _ _ _ Rem.p0 (HLe.refl _) (TkD.nil _)))) ?_
 rintro m23 v h ⟨k22, x17, ⟨hkk22, hF19⟩, rfl, rfl⟩
 refine GoC.seq ?_
 refine GoC.region ?_
 refine GoO.pure (ps_lss rfl rfl rfl) ?_
 refine GoO.nil ?_
 refine GoK.code ?_
 refine GoC.seq ?_
 refine GoC.condD rfl (fun (hk22 : (k22 : Int) < ((nodes.length : Nat) : Int)) => ?_) (fun (hk22 : ¬ (k22 : Int) < ((nodes.length : Nat) : Int)) => ?_)
 obtain ⟨m23', rfl⟩ : ∃ x, m23 = x + 1 := ⟨m23 - 1, by omega⟩
 have hb := bind_l hF19; clear hF19
 obtain ⟨qrm23, H, hF19⟩ := hb
 have hnk22 : k22 < nodes.length := by omega
 have hIk22 : InI ((k22 : Int) + 1) := inI_len hk22 ml3
 refine GoC.skip ?_
 refine GoK.code ?_
 refine GoC.seq ?_
 refine GoC.block ?_
 refine GoC.seq ?_
 refine GoC.region ?_
 refine GoO.pure (ps_indexAddrRN rfl rfl hnk22 rfl) ?_
 refine GoO.pure (ps_loadR rfl hnk22 rfl rfl) ?_
 refine GoO.pure (ps_assign rfl rfl) ?_
 refine GoO.nil ?_
 refine GoK.code ?_
 refine GoC.seq ?_
 refine GoC.drawA (.q 0 (.q 1 (.q 2 (.q 3 (.q 4 (.q 5 (.q 6 (.q 7 (.q 8 (.q 9 (.q 10 (.q 11 (.q 12 (.q 13 (.q 14 (.q 15 (.q 16 (.done)))))))))))))))))) follows (by kernel_rfl) ?_
 refine GoP.qN rfl (ps_move rfl rfl) ?_
 have c24 := ck_l H; replace H := ck_r H
 refine GoP.qN rfl (ps_indexAddrA rfl rfl c24 rfl) ?_
 refine GoP.qN rfl (ps_loadA (α := Bool) (i := (nodes.getD k22 (0 : Int)).toNat) (off := 0) rfl At.p1 At.p1 (by simp only [show El.size Bool = 1 from rfl, List.length_cons, List.length_nil, eldI]; omega) (idx_lt (n := 12) c24) rfl rfl rfl) ?_
 refine GoP.qN rfl (ps_not rfl rfl) ?_
 refine GoP.qN rfl (ps_move rfl rfl) ?_
 refine GoP.decide 30 rfl (fun h25 => ?_) (fun h25 => ?_)
 replace H := itb_t h25 H
 refine GoP.qT rfl rfl rfl rfl (ps_move rfl rfl) ?_
 refine GoP.qT rfl rfl rfl rfl (ps_lss rfl rfl rfl) ?_
 refine GoP.qT rfl rfl rfl rfl (ps_move rfl rfl) ?_
 refine GoP.decideD 33 rfl (fun h26 => ?_) (fun h26 => ?_)
 replace H := ite_t h26 H
 refine GoP.qF rfl rfl rfl rfl rfl ?_
 refine GoP.qF rfl rfl rfl rfl rfl ?_
 refine GoP.qF rfl rfl rfl rfl rfl ?_
 refine GoP.qF rfl rfl rfl rfl rfl ?_
 refine GoP.qF rfl rfl rfl rfl rfl ?_
 refine GoP.qF rfl rfl rfl rfl rfl ?_
 refine GoP.qF rfl rfl rfl rfl rfl ?_
 refine GoP.qT rfl rfl rfl rfl (ps_pickT rfl rfl rfl) ?_
 refine GoP.qN rfl (ps_pickT rfl rfl rfl) ?_
 refine GoP.done ?_
 refine GoK.code ?_
 refine GoC.condT rfl ?_
 refine GoC.region ?_
 refine GoO.pure (ps_move rfl rfl) ?_
 refine GoO.pure (ps_assign rfl rfl) ?_
 refine GoO.nil ?_
 refine GoK.blk ?_
 refine GoK.code ?_
 refine GoC.region ?_
 refine GoO.pure (ps_add rfl rfl rfl hIk22) ?_
 refine GoO.pure (ps_move rfl rfl) ?_
 refine GoO.nil ?_
 obtain rfl := Option.some.inj H
 exact GoK.againJ m23' (by omega) ⟨_, _, ⟨by omega, hF19⟩, rfl, rfl⟩ (EnvD.eq rfl (EnvD.eq rfl (EnvD.eq rfl (EnvD.eq rfl (EnvD.eq rfl (EnvD.eq rfl (EnvD.eq rfl (EnvD.eq rfl (EnvD.eq rfl (EnvD.eq rfl (EnvD.eq rfl (EnvD.nil)))))))))))) (TkD.cons _ _ _ _ _ Rem.p0 (HLe.refl _) (TkD.cons _ _ _ _ _ Rem.p0 (HLe.refl _) (TkD.cons _ _ _ _ _ Rem.p0 (HLe.refl _) (TkD.nil _))))
 replace H := ite_f h26 H
 refine GoP.qT rfl rfl rfl rfl (ps_move rfl rfl) ?_
 refine GoP.qT rfl rfl rfl rfl (ps_indexAddrA rfl rfl c24 rfl) ?_
 refine GoP.qT rfl rfl rfl rfl (ps_loadA (α := Int) (i := (nodes.getD k22 (0 : Int)).toNat) (off := 0) rfl At.p0 At.p0 (by simp only [show El.size Int = 1 from rfl, List.length_cons, List.length_nil, eldI]; omega) (idx_lt (n := 12) c24) rfl rfl rfl) ?_
 refine GoP.qT rfl rfl rfl rfl (ps_move rfl rfl) ?_
 have c27 := ck_l H; replace H := ck_r H
 refine GoP.qT rfl rfl rfl rfl (ps_indexAddrA rfl rfl c27 rfl) ?_
 refine GoP.qT rfl rfl rfl rfl (ps_loadA (α := Int) (i := x17.toNat) (off := 0) rfl At.p0 At.p0 (by simp only [show El.size Int = 1 from rfl, List.length_cons, List.length_nil, eldI]; omega) (idx_lt (n := 12) c27) rfl rfl rfl) ?_
 refine GoP.qT rfl rfl rfl rfl (ps_gtr rfl rfl rfl) ?_
 refine GoP.qT rfl rfl rfl rfl (ps_pickF rfl rfl rfl) ?_
 refine GoP.qN rfl (ps_pickT rfl rfl rfl) ?_
 refine GoP.done ?_
 refine GoK.code ?_
 refine GoC.condD rfl (fun h28 => ?_) (fun h28 => ?_)
 replace H := ite_t h28 H
 refine GoC.region ?_
 refine GoO.pure (ps_move rfl rfl) ?_
 refine GoO.pure (ps_assign rfl rfl) ?_
 refine GoO.nil ?_
 refine GoK.blk ?_
 refine GoK.code ?_
 refine GoC.region ?_
 refine GoO.pure (ps_add rfl rfl rfl hIk22) ?_
 refine GoO.pure (ps_move rfl rfl) ?_
 refine GoO.nil ?_
 obtain rfl := Option.some.inj H
 exact GoK.againJ m23' (by omega) ⟨_, _, ⟨by omega, hF19⟩, rfl, rfl⟩ (EnvD.eq rfl (EnvD.eq rfl (EnvD.eq rfl (EnvD.eq rfl (EnvD.eq rfl (EnvD.eq rfl (EnvD.eq rfl (EnvD.eq rfl (EnvD.eq rfl (EnvD.eq rfl (EnvD.eq rfl (EnvD.nil)))))))))))) (TkD.cons _ _ _ _ _ Rem.p0 (HLe.refl _) (TkD.cons _ _ _ _ _ Rem.p0 (HLe.refl _) (TkD.cons _ _ _ _ _ Rem.p0 (HLe.refl _) (TkD.nil _))))
 replace H := ite_f h28 H
 refine GoC.skip ?_
 refine GoK.blk ?_
 refine GoK.code ?_
 refine GoC.region ?_
 refine GoO.pure (ps_add rfl rfl rfl hIk22) ?_
 refine GoO.pure (ps_move rfl rfl) ?_
 refine GoO.nil ?_
 obtain rfl := Option.some.inj H
 exact GoK.againJ m23' (by omega) ⟨_, _, ⟨by omega, hF19⟩, rfl, rfl⟩ (EnvD.eq rfl (EnvD.eq rfl (EnvD.eq rfl (EnvD.eq rfl (EnvD.eq rfl (EnvD.eq rfl (EnvD.eq rfl (EnvD.eq rfl (EnvD.eq rfl (EnvD.eq rfl (EnvD.eq rfl (EnvD.nil)))))))))))) (TkD.cons _ _ _ _ _ Rem.p0 (HLe.refl _) (TkD.cons _ _ _ _ _ Rem.p0 (HLe.refl _) (TkD.cons _ _ _ _ _ Rem.p0 (HLe.refl _) (TkD.nil _))))
 replace H := itb_f h25 H
 refine GoP.qF rfl rfl rfl rfl rfl ?_
 refine GoP.qF rfl rfl rfl rfl rfl ?_
 refine GoP.qF rfl rfl rfl rfl rfl ?_
 refine GoP.qU rfl rfl rfl rfl rfl ?_
 refine GoP.qU rfl rfl rfl rfl rfl ?_
 refine GoP.qU rfl rfl rfl rfl rfl ?_
 refine GoP.qU rfl rfl rfl rfl rfl ?_
 refine GoP.qU rfl rfl rfl rfl rfl ?_
 refine GoP.qU rfl rfl rfl rfl rfl ?_
 refine GoP.qU rfl rfl rfl rfl rfl ?_
 refine GoP.qF rfl rfl rfl rfl rfl ?_
 refine GoP.qN rfl (ps_pickF rfl rfl rfl) ?_
 refine GoP.done ?_
 refine GoK.code ?_
 refine GoC.condF rfl ?_
 refine GoC.skip ?_
 refine GoK.blk ?_
 refine GoK.code ?_
 refine GoC.region ?_
 refine GoO.pure (ps_add rfl rfl rfl hIk22) ?_
 refine GoO.pure (ps_move rfl rfl) ?_
 refine GoO.nil ?_
 obtain rfl := Option.some.inj H
 exact GoK.againJ m23' (by omega) ⟨_, _, ⟨by omega, hF19⟩, rfl, rfl⟩ (EnvD.eq rfl (EnvD.eq rfl (EnvD.eq rfl (EnvD.eq rfl (EnvD.eq rfl (EnvD.eq rfl (EnvD.eq rfl (EnvD.eq rfl (EnvD.eq rfl (EnvD.eq rfl (EnvD.eq rfl (EnvD.nil)))))))))))) (TkD.cons _ _ _ _ _ Rem.p0 (HLe.refl _) (TkD.cons _ _ _ _ _ Rem.p0 (HLe.refl _) (TkD.cons _ _ _ _ _ Rem.p0 (HLe.refl _) (TkD.nil _))))
 obtain rfl : m23 = 0 := by omega
 refine GoC.exit rfl ?_
 cases hF19
 exact GoK.meet ⟨rfl, rfl⟩ (EnvD.eq rfl (EnvD.eq rfl (EnvD.eq rfl (EnvD.eq rfl (EnvD.eq rfl (EnvD.eq rfl (EnvD.eq rfl (EnvD.eq rfl (EnvD.nil))))))))) (TkD.cons _ _ _ _ _ Rem.p0 (HLe.refl _) (TkD.cons _ _ _ _ _ Rem.p0 (HLe.refl _) (TkD.cons _ _ _ _ _ Rem.p0 (HLe.refl _) (TkD.nil _))))
 rintro v h ⟨rfl, rfl⟩
 have H := HK18; clear HK18
 refine GoK.code ?_
 refine GoC.seq ?_
 refine GoC.region ?_
 refine GoO.pure (ps_move rfl rfl) ?_
 have c30 := ck_l H; replace H := ck_r H
 refine GoO.pure (ps_indexAddrA rfl rfl c30 rfl) ?_
 refine GoO.eff1 (ef_store rfl rfl rfl At.p1 (upd_arr1 (α := Bool) (i := x21.toNat) (v := true) rfl (by simp only [show El.size Bool = 1 from rfl, List.length_cons, List.length_nil, eldI]; omega) rfl) Nat.zero_lt_one (blt_of (arr_lt (α := Bool) (pre := []) (i := x21.toNat) (off := 0) (by simp only [show El.size Bool = 1 from rfl, List.length_cons, List.length_nil, eldI]; omega) (idx_lt (n := 12) c30) (by decide) rfl))) ?_
 refine GoO.nil ?_
 refine GoK.code ?_
 refine GoC.seq ?_
 refine GoC.region ?_
 refine GoO.pure (ps_move rfl rfl) ?_
 refine GoO.pure (ps_move rfl rfl) ?_
 refine GoO.pure (ps_assign rfl rfl) ?_
 refine GoO.pure (ps_assign rfl rfl) ?_
 refine GoO.nil ?_
 refine GoK.code ?_
 refine GoC.seq ?_
 refine GoC.region ?_
 refine GoO.pure (ps_move rfl rfl) ?_
 refine GoO.pure (ps_len rfl (by constructor) rfl) ?_
 refine GoO.pure (ps_move rfl rfl) ?_
 refine GoO.nil ?_
 refine GoK.code ?_
 have hb := bind_l H; clear H
 obtain ⟨f35, hl41, HK32⟩ := hb
 refine GoC.blockJ [(0, slD nodes), (1, .ptr βw_ 144 0 0), (8, .ptr β2 12 0 0), (9, .v (.int .i64 x21)), (10, .v (.int .i64 x6)), (17, .v (.int .i64 ((nodes.length : Nat) : Int))), (18, .v (.int .i64 ((k15 : Nat) : Int)))] [.one β2 136 12 (arrC (α := Bool) [] (updF f5 x21.toNat true)), .one βw_ 109 144 (arrC (α := Int) [] w_)] (fun v h => v = [(7, .ptr β1 12 0 0)] ∧ h = [.one β1 98 12 (arrC (α := Int) [] f35)]) ?_ ?_
 refine GoC.loopJ [(0, _), (1, _), (8, _), (9, _), (10, _), (11, _), (17, _), (18, _), (49, _), (50, _)] [.one β2 136 12 (arrC (α := Bool) [] (updF f5 x21.toNat true)), .one βw_ 109 144 (arrC (α := Int) [] w_)] (fun mQ v h => ∃ (k36 : Nat) (f31 : (Nat → Int)), (k36 + mQ = nodes.length ∧ forN (least_order_B3 nodes w_ f5 x21) mQ k36 f31 = some f35) ∧ v = [(51, .v (.int .i64 ((k36 : Nat) : Int))), (7, .ptr β1 12 0 0)] ∧ h = [.one β1 98 12 (arrC (α := Int) [] f31)]) nodes.length ⟨_, _, ⟨by omega, hl41⟩, rfl, rfl⟩ (EnvD.eq rfl (EnvD.eq rfl (EnvD.eq rfl (EnvD.eq rfl (EnvD.eq rfl (EnvD.eq rfl (EnvD.eq rfl (EnvD.eq rfl (EnvD.eq rfl (EnvD.eq rfl (EnvD.eq rfl (EnvD.eq rfl (EnvD.nil))))))))))))) (TkD.cons _ _ _ _ _ Rem.p0 (HLe.refl _) (TkD.cons _ _ _ _ _ Rem.p0 (HLe.refl _) (TkD.cons _ _ _ _ _ Rem.p0 (HLe.refl _) (TkD.nil _)))) ?_
 rintro m37 v h ⟨k36, f31, ⟨hkk36, hF33⟩, rfl, rfl⟩
 refine GoC.seq ?_
 refine GoC.region ?_
 refine GoO.pure (ps_lss rfl rfl rfl) ?_
 refine GoO.nil ?_
 refine GoK.code ?_
 refine GoC.seq ?_
 refine GoC.condD rfl (fun (hk36 : (k36 : Int) < ((nodes.length : Nat) : Int)) => ?_) (fun (hk36 : ¬ (k36 : Int) < ((nodes.length : Nat) : Int)) => ?_)
 obtain ⟨m37', rfl⟩ : ∃ x, m37 = x + 1 := ⟨m37 - 1, by omega⟩
 have hb := bind_l hF33; clear hF33
 obtain ⟨qrm37, H, hF33⟩ := hb
 have hnk36 : k36 < nodes.length := by omega
 have hIk36 : InI ((k36 : Int) + 1) := inI_len hk36 ml3
 refine GoC.skip ?_
 refine GoK.code ?_
 refine GoC.seq ?_
 refine GoC.block ?_
 refine GoC.seq ?_
 refine GoC.region ?_
 refine GoO.pure (ps_indexAddrRN rfl rfl hnk36 rfl) ?_
 refine GoO.pure (ps_loadR rfl hnk36 rfl rfl) ?_
 refine GoO.pure (ps_assign rfl rfl) ?_
 refine GoO.nil ?_
 refine GoK.code ?_
 refine GoC.seq ?_
 refine GoC.region ?_
 refine GoO.pure (ps_move rfl rfl) ?_
 have c38 := ck_l H; replace H := ck_r H
 refine GoO.pure (ps_indexAddrA rfl rfl c38 rfl) ?_
 refine GoO.pure (ps_loadA (α := Bool) (i := (nodes.getD k36 (0 : Int)).toNat) (off := 0) rfl At.p1 At.p1 (by simp only [show El.size Bool = 1 from rfl, List.length_cons, List.length_nil, eldI]; omega) (idx_lt (n := 12) c38) rfl rfl rfl) ?_
 refine GoO.pure (ps_not rfl rfl) ?_
 refine GoO.nil ?_
 refine GoK.code ?_
 refine GoC.cond rfl (fun h39 => ?_) (fun h39 => ?_)
 replace H := itb_t h39 H
 refine GoC.drawP (.q 0 (.q 1 (.q 3 (.q 4 (.q 5 (.q 6 (.q 7 (.q 8 (.q 9 (.one 2 (.q 10 (.q 11 (.one 12 (.done)))))))))))))) [(1, _, _, _)] follows (by kernel_rfl) (Take.cons _ _ _ _ _ Rem.p2 (Take.nil _)) ?_
 refine GoP.qN rfl (ps_move rfl rfl) ?_
 refine GoP.qN rfl (ps_indexAddrA rfl rfl c38 rfl) ?_
 refine GoP.qN rfl (ps_move rfl rfl) ?_
 refine GoP.qN rfl (ps_move rfl rfl) ?_
 refine GoP.qN rfl (ps_move rfl rfl) ?_
 refine GoP.qN rfl (ps_nilCheck rfl rfl) ?_
 refine GoP.qN rfl (ps_indexAddrA rfl rfl c30 rfl) ?_
 refine GoP.qN rfl (ps_indexAddrA rfl rfl c38 rfl) ?_
 refine GoP.qN rfl (ps_loadA (α := Int) (i := ((x21.toNat * 12) + (nodes.getD k36 (0 : Int)).toNat)) (off := 0) rfl At.p2 At.p0 (by simp only [show El.size Int = 1 from rfl, List.length_cons, List.length_nil, eldI]; omega) (by have h1 := (idx_lt (n := 12) c30); have h2 := (idx_lt (n := 12) c38); omega : ((x21.toNat * 12) + (nodes.getD k36 (0 : Int)).toNat) < 144) rfl rfl rfl) ?_
 refine GoP.oneN rfl (ps_loadA (α := Int) (i := (nodes.getD k36 (0 : Int)).toNat) (off := 0) rfl At.p0 At.p0 (by simp only [show El.size Int = 1 from rfl, List.length_cons, List.length_nil, eldI]; omega) (idx_lt (n := 12) c38) rfl rfl rfl) (Take.cons _ _ _ _ _ Rem.p2 (Take.nil _)) ?_
 have c40 := ck_l H; replace H := ck_r H
 refine GoP.qN rfl (ps_add rfl rfl rfl c40) ?_
 refine GoP.qN rfl (ps_indexAddrA rfl rfl c38 rfl) ?_
 refine GoP.one1 rfl trivial (ef_store rfl rfl rfl At.p0 (upd_arr1 (α := Int) (i := (nodes.getD k36 (0 : Int)).toNat) (v := ((f31 ((nodes.getD k36 (0 : Int)).toNat)) + (w_ ((x21.toNat * 12) + (nodes.getD k36 (0 : Int)).toNat)))) rfl (by simp only [show El.size Int = 1 from rfl, List.length_cons, List.length_nil, eldI]; omega) rfl) Nat.zero_lt_one (blt_of (arr_lt (α := Int) (pre := []) (i := (nodes.getD k36 (0 : Int)).toNat) (off := 0) (by simp only [show El.size Int = 1 from rfl, List.length_cons, List.length_nil, eldI]; omega) (idx_lt (n := 12) c38) (by decide) rfl))) (Take.cons _ _ _ _ _ Rem.p0 (Take.cons _ _ _ _ _ Rem.p1 (Take.nil _))) ?_
 refine GoP.done ?_
 refine GoK.blk ?_
 refine GoK.code ?_
 refine GoC.region ?_
 refine GoO.pure (ps_add rfl rfl rfl hIk36) ?_
 refine GoO.pure (ps_move rfl rfl) ?_
 refine GoO.nil ?_
 obtain rfl := Option.some.inj H
 exact GoK.againJ m37' (by omega) ⟨_, _, ⟨by omega, hF33⟩, rfl, rfl⟩ (EnvD.eq rfl (EnvD.eq rfl (EnvD.eq rfl (EnvD.eq rfl (EnvD.eq rfl (EnvD.eq rfl (EnvD.eq rfl (EnvD.eq rfl (EnvD.eq rfl (EnvD.eq rfl (EnvD.eq rfl (EnvD.eq rfl (EnvD.nil))))))))))))) (TkD.cons _ _ _ _ _ Rem.p0 (HLe.refl _) (TkD.cons _ _ _ _ _ Rem.p0 (HLe.refl _) (TkD.cons _ _ _ _ _ Rem.p0 (HLe.refl _) (TkD.nil _))))
 replace H := itb_f h39 H
 refine GoC.skip ?_
 refine GoK.blk ?_
 refine GoK.code ?_
 refine GoC.region ?_
 refine GoO.pure (ps_add rfl rfl rfl hIk36) ?_
 refine GoO.pure (ps_move rfl rfl) ?_
 refine GoO.nil ?_
 obtain rfl := Option.some.inj H
 exact GoK.againJ m37' (by omega) ⟨_, _, ⟨by omega, hF33⟩, rfl, rfl⟩ (EnvD.eq rfl (EnvD.eq rfl (EnvD.eq rfl (EnvD.eq rfl (EnvD.eq rfl (EnvD.eq rfl (EnvD.eq rfl (EnvD.eq rfl (EnvD.eq rfl (EnvD.eq rfl (EnvD.eq rfl (EnvD.eq rfl (EnvD.nil))))))))))))) (TkD.cons _ _ _ _ _ Rem.p0 (HLe.refl _) (TkD.cons _ _ _ _ _ Rem.p0 (HLe.refl _) (TkD.cons _ _ _ _ _ Rem.p0 (HLe.refl _) (TkD.nil _))))
 obtain rfl : m37 = 0 := by omega
 refine GoC.exit rfl ?_
 cases hF33
 exact GoK.meet ⟨rfl, rfl⟩ (EnvD.eq rfl (EnvD.eq rfl (EnvD.eq rfl (EnvD.eq rfl (EnvD.eq rfl (EnvD.eq rfl (EnvD.eq rfl (EnvD.eq rfl (EnvD.nil))))))))) (TkD.cons _ _ _ _ _ Rem.p0 (HLe.refl _) (TkD.cons _ _ _ _ _ Rem.p0 (HLe.refl _) (TkD.cons _ _ _ _ _ Rem.p0 (HLe.refl _) (TkD.nil _))))
 rintro v h ⟨rfl, rfl⟩
 have H := HK32; clear HK32
 refine GoK.blk ?_
 refine GoK.code ?_
 refine GoC.region ?_
 refine GoO.pure (ps_add rfl rfl rfl hIk15) ?_
 refine GoO.pure (ps_move rfl rfl) ?_
 refine GoO.nil ?_
 obtain rfl := Option.some.inj H
 exact GoK.againJ m16' (by omega) ⟨_, _, _, _, _, ⟨by omega, hF9⟩, rfl, rfl⟩ (EnvD.eq rfl (EnvD.eq rfl (EnvD.eq rfl (EnvD.eq rfl (EnvD.eq rfl (EnvD.eq rfl (EnvD.eq rfl (EnvD.eq rfl (EnvD.nil))))))))) (TkD.cons _ _ _ _ _ Rem.p0 (HLe.refl _) (TkD.cons _ _ _ _ _ Rem.p0 (HLe.refl _) (TkD.cons _ _ _ _ _ Rem.p0 (HLe.refl _) (TkD.nil _))))
 obtain rfl : m16 = 0 := by omega
 refine GoC.exit rfl ?_
 cases hF9
 exact GoK.meet ⟨rfl, rfl⟩ (EnvD.eq rfl (EnvD.eq rfl (EnvD.eq rfl (EnvD.nil)))) (TkD.cons _ _ _ _ _ Rem.p0 (HLe.refl _) (TkD.cons _ _ _ _ _ Rem.p0 (HLe.refl _) (TkD.cons _ _ _ _ _ Rem.p0 (HLe.refl _) (TkD.nil _))))
 rintro v h ⟨rfl, rfl⟩
 have H := HK8; clear HK8
 refine GoK.code ?_
 refine GoC.seq ?_
 refine GoC.drawA (.q 0 (.q 1 (.q 2 (.q 3 (.q 4 (.q 5 (.q 6 (.q 7 (.done))))))))) follows (by kernel_rfl) ?_
 refine GoP.qN rfl (ps_move rfl rfl) ?_
 refine GoP.qN rfl (ps_move rfl rfl) ?_
 refine GoP.qN rfl (ps_move rfl rfl) ?_
 have c43 := ck_l H; replace H := ck_r H
 refine GoP.qN rfl (ps_indexAddrA rfl rfl c43 rfl) ?_
 refine GoP.qN rfl (ps_loadA (α := Int) (i := x13.toNat) (off := 0) rfl At.p0 At.p0 (by simp only [show El.size Int = 1 from rfl, List.length_cons, List.length_nil, eldI]; omega) (idx_lt (n := 12) c43) rfl rfl rfl) ?_
 refine GoP.qN rfl (ps_assign rfl rfl) ?_
 refine GoP.qN rfl (ps_assign rfl rfl) ?_
 refine GoP.qN rfl (ps_assign rfl rfl) ?_
 refine GoP.done ?_
 refine GoK.code ?_
 obtain rfl := Option.some.inj H
 exact GoC.retL (ds := [.v (.int .i64 x13), .v (.int .i64 x14), .v (.int .i64 (f11 x13.toNat))]) Try.results80 (ResL.cons (ResD.tmp rfl) (ResL.cons (ResD.tmp rfl) (ResL.cons (ResD.tmp rfl) (ResL.nil)))) (Take.cons _ _ _ _ _ Rem.p2 (Take.nil _)) ⟨rfl, rfl⟩

def least_Of_B1 (g : Graph) : Nat → (Nat → Int) → Option ((Nat → Int)) := fun k13 f8 =>
 if ((g.as.getD k13 El.d).f) ≠ ((g.as.getD k13 El.d).t) then
  ck (0 ≤ (g.as.getD k13 El.d).f ∧ (g.as.getD k13 El.d).f < 12) <|
  ck (0 ≤ (g.as.getD k13 El.d).t ∧ (g.as.getD k13 El.d).t < 12) <|
  ck (InI ((f8 ((((g.as.getD k13 El.d).f).toNat * 12) + ((g.as.getD k13 El.d).t).toNat)) + ((g.as.getD k13 El.d).c))) <|
  ck (InI (((updF f8 ((((g.as.getD k13 El.d).f).toNat * 12) + ((g.as.getD k13 El.d).t).toNat) ((f8 ((((g.as.getD k13 El.d).f).toNat * 12) + ((g.as.getD k13 El.d).t).toNat)) + ((g.as.getD k13 El.d).c))) ((((g.as.getD k13 El.d).t).toNat * 12) + ((g.as.getD k13 El.d).f).toNat)) + ((g.as.getD k13 El.d).c))) <|
  some (updF (updF f8 ((((g.as.getD k13 El.d).f).toNat * 12) + ((g.as.getD k13 El.d).t).toNat) ((f8 ((((g.as.getD k13 El.d).f).toNat * 12) + ((g.as.getD k13 El.d).t).toNat)) + ((g.as.getD k13 El.d).c))) ((((g.as.getD k13 El.d).t).toNat * 12) + ((g.as.getD k13 El.d).f).toNat) (((updF f8 ((((g.as.getD k13 El.d).f).toNat * 12) + ((g.as.getD k13 El.d).t).toNat) ((f8 ((((g.as.getD k13 El.d).f).toNat * 12) + ((g.as.getD k13 El.d).t).toNat)) + ((g.as.getD k13 El.d).c))) ((((g.as.getD k13 El.d).t).toNat * 12) + ((g.as.getD k13 El.d).f).toNat)) + ((g.as.getD k13 El.d).c)))
 else
  some f8
def least_Of_B2 : Nat → ((Nat → U16) × (List Int)) → Option ((Nat → U16) × (List Int)) := fun k32 (f24, l26) =>
 ck (k32 < 12) <|
 ck (l26.length + 1 ≤ 17592186044416) <|
 some ((updF f24 k32 (⟨(IntKind.u16.wrap (1 * 2 ^ min k32 16))⟩ : U16)), (l26 ++ ([((k32 : Nat) : Int)] : List Int)))
def least_Of_B4 (l42 : (List Int)) (r56 : Int) (r57 : Int) : Nat → ((Nat → Int) × (List Int)) → Option ((Nat → Int) × (List Int)) := fun k79 (f71, l73) =>
 if (l42.getD k79 (0 : Int)) ≠ r56 then
  ck (l73.length + 1 ≤ 17592186044416) <|
  ck (0 ≤ (l42.getD k79 (0 : Int)) ∧ (l42.getD k79 (0 : Int)) < 12) <|
  ck (InI ((f71 ((r57.toNat * 12) + (l42.getD k79 (0 : Int)).toNat)) + (f71 ((r56.toNat * 12) + (l42.getD k79 (0 : Int)).toNat)))) <|
  some ((updF (updF f71 ((r57.toNat * 12) + (l42.getD k79 (0 : Int)).toNat) ((f71 ((r57.toNat * 12) + (l42.getD k79 (0 : Int)).toNat)) + (f71 ((r56.toNat * 12) + (l42.getD k79 (0 : Int)).toNat)))) (((l42.getD k79 (0 : Int)).toNat * 12) + r57.toNat) ((updF f71 ((r57.toNat * 12) + (l42.getD k79 (0 : Int)).toNat) ((f71 ((r57.toNat * 12) + (l42.getD k79 (0 : Int)).toNat)) + (f71 ((r56.toNat * 12) + (l42.getD k79 (0 : Int)).toNat)))) ((r57.toNat * 12) + (l42.getD k79 (0 : Int)).toNat))), (l73 ++ ([(l42.getD k79 (0 : Int))] : List Int)))
 else
  some (f71, l73)
def least_Of_B3 : ((Nat → Int) × (Nat → U16) × (List Int) × Int × Int) → Option (Ct ((Nat → Int) × (Nat → U16) × (List Int) × Int × Int) (Int × Int × Int)) := fun (f39, f40, l42, x43, x44) =>
 if 1 < ((l42.length : Nat) : Int) then
  (least_order_F l42 f39).bind fun (r56, r57, r58, x59) =>
  ((
   if x44 < 0 then
    ck (0 ≤ r56 ∧ r56 < 12) <|
    some ((f40 r56.toNat).v, r58)
   else
    if r58 < x44 then
     ck (0 ≤ r56 ∧ r56 < 12) <|
     some ((f40 r56.toNat).v, r58)
    else
     some (x43, x44)) : Option (Int × Int)).bind fun (x61, x62) =>
  ck (0 ≤ r57 ∧ r57 < 12) <|
  ck (0 ≤ r56 ∧ r56 < 12) <|
  (forN (least_Of_B4 l42 r56 r57) l42.length 0 (x59, [])).bind fun (f77, l78) =>
  some (.go ((updF f77 ((r57.toNat * 12) + r57.toNat) 0), (updF f40 r57.toNat (⟨(bitsOf .or .u16 ((f40 r57.toNat).v) ((f40 r56.toNat).v))⟩ : U16)), l78, x61, x62))
 else
  some (.brk (f39, f40, l42, x43, x44))
def least_Of_F (g : Graph) : Option (Int × Int × Int) :=
 (pairs_Check_F g).bind fun r2 =>
 if r2 ≠ 0 then
  some (0, 0, r2)
 else
  if g.n < 2 then
   some (0, 0, 5)
  else
   (forN (least_Of_B1 g) g.as.length 0 (fun _ => (0 : Int) : Nat → Int)).bind fun f12 =>
   ck (InI g.n) <|
   (forN (least_Of_B2) g.n.toNat 0 ((fun _ => El.d : Nat → U16), [])).bind fun (f30, l31) =>
   (loopC (least_Of_B3) 1000000 (f12, f30, l31, 0, (-1))).bind fun q => match q with
   | .go (f48, f49, l50, x51, x52) =>
    ((
     if (bitsOf .and .u16 x51 1) = 1 then
      ck (0 ≤ g.n) <|
      some (bitsOf .andNot .u16 (IntKind.u16.wrap ((IntKind.u16.wrap (1 * 2 ^ min g.n.toNat 16)) - 1)) x51)
     else
      some x51) : Option (Int)).bind fun x89 =>
    some (x89, x52, 0)
   | .ret x => some x
def least_Of_P (out : Int × Int × Int) (d : D) (H : List HL) : Prop := d = .tp 3 (nth [.v (.int .u16 out.1), .v (.int .i64 out.2.1), .v (.int .i64 out.2.2)]) ∧ H = []
theorem least_Of_I (out : Int × Int × Int) : IndepP (least_Of_P out) := IndepP.of (by rintro _ _ ⟨rfl, rfl⟩; exact ⟨inferInstance, inferInstance⟩)
set_option maxRecDepth 100000 in
set_option maxHeartbeats 4000000 in
theorem least_Of_spec (g : Graph) {out : Int × Int × Int} (H : least_Of_F g = some out) : Does Try.prog 44 [.ag 2 (nth [.v (.int .i64 g.n), slD g.as])] [] (least_Of_P out) := by
 unfold least_Of_F at H
 refine Does.intro Try.func44 rfl Try.ntmps44 rfl fun w0 I0 => ?_
 refine GoC.seq ?_
 refine GoC.region ?_
 refine GoO.effB (ef_boxAg rfl rfl) (fun β1 => ?_)
 refine GoO.pure (ps_assign rfl rfl) ?_
 refine GoO.pure (ps_assign rfl rfl) ?_
 refine GoO.pure (ps_assign rfl rfl) ?_
 refine GoO.nil ?_
 refine GoK.code ?_
 refine GoC.seq ?_
 refine GoC.seq ?_
 refine GoC.region ?_
 refine GoO.pure (ps_loadAg rfl At.p0 At.p0 Nat.zero_lt_one rfl rfl) ?_
 have hb := bind_l H; clear H
 obtain ⟨r2, e3, H⟩ := hb
 refine GoO.effC (ef_call rfl (Take.nil _) (Take.nil _) (pairs_Check_spec g e3) (LendL.cons (Lend.agA ⟨⟨trivial, Lend.refl _ _⟩, Lend.refl _ _⟩) (LendL.nil)) rfl (pairs_Check_I (r2))) (fun rr HH hp => ?_)
 obtain ⟨rfl, rfl⟩ := hp
 refine GoO.pure (ps_assign rfl rfl) ?_
 refine GoO.nil ?_
 refine GoK.code ?_
 refine GoC.seq ?_
 refine GoC.region ?_
 refine GoO.pure (ps_move rfl rfl) ?_
 refine GoO.pure (ps_neq rfl rfl rfl) ?_
 refine GoO.nil ?_
 refine GoK.code ?_
 refine GoC.condD rfl (fun h4 => ?_) (fun h4 => ?_)
 replace H := ite_t h4 H
 refine GoC.seq ?_
 refine GoC.region ?_
 refine GoO.pure (ps_move rfl rfl) ?_
 refine GoO.pure (ps_assign rfl rfl) ?_
 refine GoO.pure (ps_assign rfl rfl) ?_
 refine GoO.pure (ps_assign rfl rfl) ?_
 refine GoO.nil ?_
 refine GoK.code ?_
 obtain rfl := Option.some.inj H
 exact GoC.retL (ds := [.v (.int .u16 0), .v (.int .i64 0), .v (.int .i64 r2)]) Try.results44 (ResL.cons (ResD.tmp rfl) (ResL.cons (ResD.tmp rfl) (ResL.cons (ResD.tmp rfl) (ResL.nil)))) (Take.nil _) ⟨rfl, rfl⟩
 replace H := ite_f h4 H
 refine GoC.skip ?_
 refine GoK.code ?_
 refine GoC.seq ?_
 refine GoC.seq ?_
 refine GoC.region ?_
 refine GoO.pure (ps_fieldAddr rfl rfl) ?_
 refine GoO.pure (ps_load rfl At.p0 At.p0 Nat.zero_lt_one rfl rfl) ?_
 refine GoO.pure (ps_lss rfl rfl rfl) ?_
 refine GoO.nil ?_
 refine GoK.code ?_
 refine GoC.condD rfl (fun h5 => ?_) (fun h5 => ?_)
 replace H := ite_t h5 H
 refine GoC.seq ?_
 refine GoC.region ?_
 refine GoO.pure (ps_assign rfl rfl) ?_
 refine GoO.pure (ps_assign rfl rfl) ?_
 refine GoO.pure (ps_assign rfl rfl) ?_
 refine GoO.nil ?_
 refine GoK.code ?_
 obtain rfl := Option.some.inj H
 exact GoC.retL (ds := [.v (.int .u16 0), .v (.int .i64 0), .v (.int .i64 5)]) Try.results44 (ResL.cons (ResD.tmp rfl) (ResL.cons (ResD.tmp rfl) (ResL.cons (ResD.tmp rfl) (ResL.nil)))) (Take.nil _) ⟨rfl, rfl⟩
 replace H := ite_f h5 H
 refine GoC.skip ?_
 refine GoK.code ?_
 refine GoC.seq ?_
 refine GoC.region ?_
 refine GoO.effB (ef_alloc rfl) (fun β6 => ?_)
 refine GoO.le (Le.reH At.p0 (HLe.arr (α := Int) (pre := []) (g := fun _ => (0 : Int)) ⟨⟨⟨⟨⟨⟨⟨⟨⟨⟨⟨⟨⟨⟨⟨⟨⟨⟨⟨⟨⟨⟨⟨⟨⟨⟨⟨⟨⟨⟨⟨⟨⟨⟨⟨⟨⟨⟨⟨⟨⟨⟨⟨⟨⟨⟨⟨⟨⟨⟨⟨⟨⟨⟨⟨⟨⟨⟨⟨⟨⟨⟨⟨⟨⟨⟨⟨⟨⟨⟨⟨⟨⟨⟨⟨⟨⟨⟨⟨⟨⟨⟨⟨⟨⟨⟨⟨⟨⟨⟨⟨⟨⟨⟨⟨⟨⟨⟨⟨⟨⟨⟨⟨⟨⟨⟨⟨⟨⟨⟨⟨⟨⟨⟨⟨⟨⟨⟨⟨⟨⟨⟨⟨⟨⟨⟨⟨⟨⟨⟨⟨⟨⟨⟨⟨⟨⟨⟨⟨⟨⟨⟨⟨⟨trivial, DLe.refl _⟩, DLe.refl _⟩, DLe.refl _⟩, DLe.refl _⟩, DLe.refl _⟩, DLe.refl _⟩, DLe.refl _⟩, DLe.refl _⟩, DLe.refl _⟩, DLe.refl _⟩, DLe.refl _⟩, DLe.refl _⟩, DLe.refl _⟩, DLe.refl _⟩, DLe.refl _⟩, DLe.refl _⟩, DLe.refl _⟩, DLe.refl _⟩, DLe.refl _⟩, DLe.refl _⟩, DLe.refl _⟩, DLe.refl _⟩, DLe.refl _⟩, DLe.refl _⟩, DLe.refl _⟩, DLe.refl _⟩, DLe.refl _⟩, DLe.refl _⟩, DLe.refl _⟩, DLe.refl _⟩, DLe.refl _⟩, DLe.refl _⟩, DLe.refl _⟩, DLe.refl _⟩, DLe.refl _⟩, DLe.refl _⟩, DLe.refl _⟩, DLe.refl _⟩, DLe.refl _⟩, DLe.refl _⟩, DLe.refl _⟩, DLe.refl _⟩, DLe.refl _⟩, DLe.refl _⟩, DLe.refl _⟩, DLe.refl _⟩, DLe.refl _⟩, DLe.refl _⟩, DLe.refl _⟩, DLe.refl _⟩, DLe.refl _⟩, DLe.refl _⟩, DLe.refl _⟩, DLe.refl _⟩, DLe.refl _⟩, DLe.refl _⟩, DLe.refl _⟩, DLe.refl _⟩, DLe.refl _⟩, DLe.refl _⟩, DLe.refl _⟩, DLe.refl _⟩, DLe.refl _⟩, DLe.refl _⟩, DLe.refl _⟩, DLe.refl _⟩, DLe.refl _⟩, DLe.refl _⟩, DLe.refl _⟩, DLe.refl _⟩, DLe.refl _⟩, DLe.refl _⟩, DLe.refl _⟩, DLe.refl _⟩, DLe.refl _⟩, DLe.refl _⟩, DLe.refl _⟩, DLe.refl _⟩, DLe.refl _⟩, DLe.refl _⟩, DLe.refl _⟩, DLe.refl _⟩, DLe.refl _⟩, DLe.refl _⟩, DLe.refl _⟩, DLe.refl _⟩, DLe.refl _⟩, DLe.refl _⟩, DLe.refl _⟩, DLe.refl _⟩, DLe.refl _⟩, DLe.refl _⟩, DLe.refl _⟩, DLe.refl _⟩, DLe.refl _⟩, DLe.refl _⟩, DLe.refl _⟩, DLe.refl _⟩, DLe.refl _⟩, DLe.refl _⟩, DLe.refl _⟩, DLe.refl _⟩, DLe.refl _⟩, DLe.refl _⟩, DLe.refl _⟩, DLe.refl _⟩, DLe.refl _⟩, DLe.refl _⟩, DLe.refl _⟩, DLe.refl _⟩, DLe.refl _⟩, DLe.refl _⟩, DLe.refl _⟩, DLe.refl _⟩, DLe.refl _⟩, DLe.refl _⟩, DLe.refl _⟩, DLe.refl _⟩, DLe.refl _⟩, DLe.refl _⟩, DLe.refl _⟩, DLe.refl _⟩, DLe.refl _⟩, DLe.refl _⟩, DLe.refl _⟩, DLe.refl _⟩, DLe.refl _⟩, DLe.refl _⟩, DLe.refl _⟩, DLe.refl _⟩, DLe.refl _⟩, DLe.refl _⟩, DLe.refl _⟩, DLe.refl _⟩, DLe.refl _⟩, DLe.refl _⟩, DLe.refl _⟩, DLe.refl _⟩, DLe.refl _⟩, DLe.refl _⟩, DLe.refl _⟩, DLe.refl _⟩, DLe.refl _⟩, DLe.refl _⟩)) ?_
 refine GoO.nil ?_
 refine GoK.code ?_
 refine GoC.seq ?_
 refine GoC.seq ?_
 refine GoC.region ?_
 refine GoO.pure (ps_fieldAddr rfl rfl) ?_
 refine GoO.pure (ps_load rfl At.p1 At.p1 Nat.zero_lt_one rfl rfl) ?_
 refine GoO.pure (ps_len rfl (by constructor) rfl) ?_
 refine GoO.lenLe (n := g.as.length) (x := .tmp 29) rfl (by constructor) sl_lenLe (fun ml7 => ?_)
 refine GoO.pure (ps_move rfl rfl) ?_
 refine GoO.nil ?_
 refine GoK.code ?_
 have hb := bind_l H; clear H
 obtain ⟨f12, hl21, HK9⟩ := hb
 refine GoC.blockJ [(1, .ptr β1 2 0 0)] [.one β1 33 2 (st1 (nth [.v (.int .i64 g.n), slD g.as]))] (fun v h => v = [(6, .ptr β6 144 0 0)] ∧ h = [.one β6 109 144 (arrC (α := Int) [] f12)]) ?_ ?_
 refine GoC.loopJ [(1, _), (29, _), (30, _)] [.one β1 33 2 (st1 (nth [.v (.int .i64 g.n), slD g.as]))] (fun mQ v h => ∃ (k13 : Nat) (f8 : (Nat → Int)), (k13 + mQ = g.as.length ∧ forN (least_Of_B1 g) mQ k13 f8 = some f12) ∧ v = [(31, .v (.int .i64 ((k13 : Nat) : Int))), (6, .ptr β6 144 0 0)] ∧ h = [.one β6 109 144 (arrC (α := Int) [] f8)]) g.as.length ⟨_, _, ⟨by omega, hl21⟩, rfl, rfl⟩ (EnvD.eq rfl (EnvD.eq rfl (EnvD.eq rfl (EnvD.eq rfl (EnvD.eq rfl (EnvD.nil)))))) (TkD.cons _ _ _ _ _ Rem.p0 (HLe.refl _) (TkD.cons _ _ _ _ _ Rem.p0 (HLe.st ⟨⟨trivial, DLe.refl _⟩, DLe.refl _⟩) (TkD.nil _))) ?_
 rintro m14 v h ⟨k13, f8, ⟨hkk13, hF10⟩, rfl, rfl⟩
 refine GoC.seq ?_
 refine GoC.region ?_
 refine GoO.pure (ps_lss rfl rfl rfl) ?_
 refine GoO.nil ?_
 refine GoK.code ?_
 refine GoC.seq ?_
 refine GoC.condD rfl (fun (hk13 : (k13 : Int) < ((g.as.length : Nat) : Int)) => ?_) (fun (hk13 : ¬ (k13 : Int) < ((g.as.length : Nat) : Int)) => ?_)
 obtain ⟨m14', rfl⟩ : ∃ x, m14 = x + 1 := ⟨m14 - 1, by omega⟩
 have hb := bind_l hF10; clear hF10
 obtain ⟨qrm14, H, hF10⟩ := hb
 have hnk13 : k13 < g.as.length := by omega
 have hIk13 : InI ((k13 : Int) + 1) := inI_len hk13 ml7
 refine GoC.skip ?_
 refine GoK.code ?_
 refine GoC.seq ?_
 refine GoC.block ?_
 refine GoC.seq ?_
 refine GoC.region ?_
 refine GoO.pure (ps_indexAddrRN rfl rfl hnk13 rfl) ?_
 refine GoO.pure (ps_loadAgR rfl hnk13 rfl rfl) ?_
 refine GoO.effB (ef_alloc rfl) (fun β15 => ?_)
 refine GoO.eff1 (ef_storeAg rfl rfl At.p0 upd_whole Nat.zero_lt_one rfl) ?_
 refine GoO.nil ?_
 refine GoK.code ?_
 refine GoC.seq ?_
 refine GoC.region ?_
 refine GoO.pure (ps_fieldAddr rfl rfl) ?_
 refine GoO.pure (ps_load rfl At.p0 At.p0 Nat.zero_lt_one rfl rfl) ?_
 refine GoO.pure (ps_fieldAddr rfl rfl) ?_
 refine GoO.pure (ps_load rfl At.p0 At.p0 Nat.zero_lt_one rfl rfl) ?_
 refine GoO.pure (ps_neq rfl rfl rfl) ?_
 refine GoO.nil ?_
 refine GoK.code ?_
 refine GoC.condD rfl (fun h16 => ?_) (fun h16 => ?_)
 replace H := ite_t h16 H
 refine GoC.seq ?_
 refine GoC.drawP (.q 0 (.q 1 (.q 2 (.q 3 (.q 4 (.q 5 (.q 7 (.q 8 (.q 10 (.one 6 (.q 9 (.q 11 (.one 12 (.done)))))))))))))) [(8, _, _, _)] follows (by kernel_rfl) (Take.cons _ _ _ _ _ Rem.p0 (Take.nil _)) ?_
 refine GoP.qN rfl (ps_fieldAddr rfl rfl) ?_
 refine GoP.qN rfl (ps_load rfl At.p0 At.p0 Nat.zero_lt_one rfl rfl) ?_
 refine GoP.qN rfl (ps_fieldAddr rfl rfl) ?_
 refine GoP.qN rfl (ps_load rfl At.p0 At.p0 Nat.zero_lt_one rfl rfl) ?_
 have c17 := ck_l H; replace H := ck_r H
 refine GoP.qN rfl (ps_indexAddrA rfl rfl c17 rfl) ?_
 have c18 := ck_l H; replace H := ck_r H
 refine GoP.qN rfl (ps_indexAddrA rfl rfl c18 rfl) ?_
 refine GoP.qN rfl (ps_fieldAddr rfl rfl) ?_
 refine GoP.qN rfl (ps_load rfl At.p0 At.p0 Nat.zero_lt_one rfl rfl) ?_
 refine GoP.qN rfl (ps_indexAddrA rfl rfl c17 rfl) ?_
 refine GoP.oneN rfl (ps_loadA (α := Int) (i := ((((g.as.getD k13 El.d).f).toNat * 12) + ((g.as.getD k13 El.d).t).toNat)) (off := 0) rfl At.p1 At.p1 (by simp only [show El.size Int = 1 from rfl, List.length_cons, List.length_nil, eldI]; omega) (by have h1 := (idx_lt (n := 12) c17); have h2 := (idx_lt (n := 12) c18); omega : ((((g.as.getD k13 El.d).f).toNat * 12) + ((g.as.getD k13 El.d).t).toNat) < 144) rfl rfl rfl) (Take.cons _ _ _ _ _ Rem.p0 (Take.nil _)) ?_
 have c19 := ck_l H; replace H := ck_r H
 refine GoP.qN rfl (ps_add rfl rfl rfl c19) ?_
 refine GoP.qN rfl (ps_indexAddrA rfl rfl c18 rfl) ?_
 refine GoP.one1 rfl trivial (ef_store rfl rfl rfl At.p1 (upd_arr1 (α := Int) (i := ((((g.as.getD k13 El.d).f).toNat * 12) + ((g.as.getD k13 El.d).t).toNat)) (v := ((f8 ((((g.as.getD k13 El.d).f).toNat * 12) + ((g.as.getD k13 El.d).t).toNat)) + ((g.as.getD k13 El.d).c))) rfl (by simp only [show El.size Int = 1 from rfl, List.length_cons, List.length_nil, eldI]; omega) rfl) Nat.zero_lt_one (blt_of (arr_lt (α := Int) (pre := []) (i := ((((g.as.getD k13 El.d).f).toNat * 12) + ((g.as.getD k13 El.d).t).toNat)) (off := 0) (by simp only [show El.size Int = 1 from rfl, List.length_cons, List.length_nil, eldI]; omega) (by have h1 := (idx_lt (n := 12) c17); have h2 := (idx_lt (n := 12) c18); omega : ((((g.as.getD k13 El.d).f).toNat * 12) + ((g.as.getD k13 El.d).t).toNat) < 144) (by decide) rfl))) (Take.cons _ _ _ _ _ Rem.p1 (Take.cons _ _ _ _ _ Rem.p0 (Take.nil _))) ?_
 refine GoP.done ?_
 refine GoK.code ?_
 refine GoC.drawP (.q 0 (.q 1 (.q 2 (.q 3 (.q 4 (.q 5 (.q 7 (.q 8 (.q 10 (.one 6 (.q 9 (.q 11 (.one 12 (.done)))))))))))))) [(8, _, _, _)] follows (by kernel_rfl) (Take.cons _ _ _ _ _ Rem.p0 (Take.nil _)) ?_
 refine GoP.qN rfl (ps_fieldAddr rfl rfl) ?_
 refine GoP.qN rfl (ps_load rfl At.p0 At.p0 Nat.zero_lt_one rfl rfl) ?_
 refine GoP.qN rfl (ps_fieldAddr rfl rfl) ?_
 refine GoP.qN rfl (ps_load rfl At.p0 At.p0 Nat.zero_lt_one rfl rfl) ?_
 refine GoP.qN rfl (ps_indexAddrA rfl rfl c18 rfl) ?_
 refine GoP.qN rfl (ps_indexAddrA rfl rfl c17 rfl) ?_
 refine GoP.qN rfl (ps_fieldAddr rfl rfl) ?_
 refine GoP.qN rfl (ps_load rfl At.p0 At.p0 Nat.zero_lt_one rfl rfl) ?_
 refine GoP.qN rfl (ps_indexAddrA rfl rfl c18 rfl) ?_
 refine GoP.oneN rfl (ps_loadA (α := Int) (i := ((((g.as.getD k13 El.d).t).toNat * 12) + ((g.as.getD k13 El.d).f).toNat)) (off := 0) rfl At.p1 At.p1 (by simp only [show El.size Int = 1 from rfl, List.length_cons, List.length_nil, eldI]; omega) (by have h1 := (idx_lt (n := 12) c18); have h2 := (idx_lt (n := 12) c17); omega : ((((g.as.getD k13 El.d).t).toNat * 12) + ((g.as.getD k13 El.d).f).toNat) < 144) rfl rfl rfl) (Take.cons _ _ _ _ _ Rem.p0 (Take.nil _)) ?_
 have c20 := ck_l H; replace H := ck_r H
 refine GoP.qN rfl (ps_add rfl rfl rfl c20) ?_
 refine GoP.qN rfl (ps_indexAddrA rfl rfl c17 rfl) ?_
 refine GoP.one1 rfl trivial (ef_store rfl rfl rfl At.p1 (upd_arr1 (α := Int) (i := ((((g.as.getD k13 El.d).t).toNat * 12) + ((g.as.getD k13 El.d).f).toNat)) (v := (((updF f8 ((((g.as.getD k13 El.d).f).toNat * 12) + ((g.as.getD k13 El.d).t).toNat) ((f8 ((((g.as.getD k13 El.d).f).toNat * 12) + ((g.as.getD k13 El.d).t).toNat)) + ((g.as.getD k13 El.d).c))) ((((g.as.getD k13 El.d).t).toNat * 12) + ((g.as.getD k13 El.d).f).toNat)) + ((g.as.getD k13 El.d).c))) rfl (by simp only [show El.size Int = 1 from rfl, List.length_cons, List.length_nil, eldI]; omega) rfl) Nat.zero_lt_one (blt_of (arr_lt (α := Int) (pre := []) (i := ((((g.as.getD k13 El.d).t).toNat * 12) + ((g.as.getD k13 El.d).f).toNat)) (off := 0) (by simp only [show El.size Int = 1 from rfl, List.length_cons, List.length_nil, eldI]; omega) (by have h1 := (idx_lt (n := 12) c18); have h2 := (idx_lt (n := 12) c17); omega : ((((g.as.getD k13 El.d).t).toNat * 12) + ((g.as.getD k13 El.d).f).toNat) < 144) (by decide) rfl))) (Take.cons _ _ _ _ _ Rem.p1 (Take.cons _ _ _ _ _ Rem.p0 (Take.nil _))) ?_
 refine GoP.done ?_
 refine GoK.blk ?_
 refine GoK.code ?_
 refine GoC.region ?_
 refine GoO.pure (ps_add rfl rfl rfl hIk13) ?_
 refine GoO.pure (ps_move rfl rfl) ?_
 refine GoO.nil ?_
 obtain rfl := Option.some.inj H
 exact GoK.againJ m14' (by omega) ⟨_, _, ⟨by omega, hF10⟩, rfl, rfl⟩ (EnvD.eq rfl (EnvD.eq rfl (EnvD.eq rfl (EnvD.eq rfl (EnvD.eq rfl (EnvD.nil)))))) (TkD.cons _ _ _ _ _ Rem.p1 (HLe.refl _) (TkD.cons _ _ _ _ _ Rem.p1 (HLe.st ⟨⟨trivial, DLe.refl _⟩, DLe.refl _⟩) (TkD.nil _)))
 replace H := ite_f h16 H
 refine GoC.skip ?_
 refine GoK.blk ?_
 refine GoK.code ?_
 refine GoC.region ?_
 refine GoO.pure (ps_add rfl rfl rfl hIk13) ?_
 refine GoO.pure (ps_move rfl rfl) ?_
 refine GoO.nil ?_
 obtain rfl := Option.some.inj H
 exact GoK.againJ m14' (by omega) ⟨_, _, ⟨by omega, hF10⟩, rfl, rfl⟩ (EnvD.eq rfl (EnvD.eq rfl (EnvD.eq rfl (EnvD.eq rfl (EnvD.eq rfl (EnvD.nil)))))) (TkD.cons _ _ _ _ _ Rem.p1 (HLe.refl _) (TkD.cons _ _ _ _ _ Rem.p1 (HLe.st ⟨⟨trivial, DLe.refl _⟩, DLe.refl _⟩) (TkD.nil _)))
 obtain rfl : m14 = 0 := by omega
 refine GoC.exit rfl ?_
 cases hF10
 exact GoK.meet ⟨rfl, rfl⟩ (EnvD.eq rfl (EnvD.eq rfl (EnvD.nil))) (TkD.cons _ _ _ _ _ Rem.p0 (HLe.refl _) (TkD.cons _ _ _ _ _ Rem.p0 (HLe.st ⟨⟨trivial, DLe.refl _⟩, DLe.refl _⟩) (TkD.nil _)))
 rintro v h ⟨rfl, rfl⟩
 have H := HK9; clear HK9
 refine GoK.code ?_
 refine GoC.seq ?_
 refine GoC.region ?_
 refine GoO.effB (ef_alloc rfl) (fun β22 => ?_)
 refine GoO.le (Le.reH At.p0 (HLe.arr (α := U16) (pre := []) (g := fun _ => El.d) ⟨⟨⟨⟨⟨⟨⟨⟨⟨⟨⟨⟨trivial, DLe.refl _⟩, DLe.refl _⟩, DLe.refl _⟩, DLe.refl _⟩, DLe.refl _⟩, DLe.refl _⟩, DLe.refl _⟩, DLe.refl _⟩, DLe.refl _⟩, DLe.refl _⟩, DLe.refl _⟩, DLe.refl _⟩)) ?_
 refine GoO.nil ?_
 refine GoK.code ?_
 refine GoC.seq ?_
 refine GoC.region ?_
 refine GoO.pure (ps_assign rfl rfl) ?_
 refine GoO.nil ?_
 refine GoK.code ?_
 refine GoC.seq ?_
 refine GoC.seq ?_
 refine GoC.region ?_
 refine GoO.pure (ps_fieldAddr rfl rfl) ?_
 refine GoO.pure (ps_load rfl At.p2 At.p2 Nat.zero_lt_one rfl rfl) ?_
 refine GoO.pure (ps_move rfl rfl) ?_
 refine GoO.nil ?_
 refine GoK.code ?_
 have c23 := ck_l H; replace H := ck_r H
 have hb := bind_l H; clear H
 obtain ⟨⟨f30, l31⟩, hl38, HK27⟩ := hb
 refine GoC.blockJ [(1, .ptr β1 2 0 0), (6, .ptr β6 144 0 0)] [.one β6 109 144 (arrC (α := Int) [] f12), .one β1 33 2 (st1 (nth [.v (.int .i64 g.n), slD g.as]))] (fun v h => ∃ (β25 : BK), v = [(9, .ptr β22 12 0 0), (10, .own β25 1 0 l31.length)] ∧ h = [.one β22 110 12 (arrC (α := U16) [] f30), .one β25 3 1 (row l31)]) ?_ ?_
 refine GoC.loopJ [(1, _), (6, _), (66, _)] [.one β6 109 144 (arrC (α := Int) [] f12), .one β1 33 2 (st1 (nth [.v (.int .i64 g.n), slD g.as]))] (fun mQ v h => ∃ (k32 : Nat) (f24 : (Nat → U16)) (l26 : (List Int)) (β25 : BK), (k32 + mQ = g.n.toNat ∧ forN (least_Of_B2) mQ k32 (f24, l26) = some (f30, l31)) ∧ v = [(67, .v (.int .i64 ((k32 : Nat) : Int))), (9, .ptr β22 12 0 0), (10, .own β25 1 0 l26.length)] ∧ h = [.one β22 110 12 (arrC (α := U16) [] f24), .one β25 3 1 (row l26)]) g.n.toNat ⟨_, _, _, ⟨0, 0, 0⟩, ⟨by omega, hl38⟩, rfl, rfl⟩ (EnvD.eq rfl (EnvD.eq rfl (EnvD.cons rfl (DLe.nilOwn) (EnvD.eq rfl (EnvD.eq rfl (EnvD.eq rfl (EnvD.nil))))))) (TkD.cons _ _ _ _ _ Rem.p0 (HLe.refl _) (TkD.no _ _ _ _ _ rfl (TkD.cons _ _ _ _ _ Rem.p0 (HLe.refl _) (TkD.cons _ _ _ _ _ Rem.p0 (HLe.st ⟨⟨trivial, DLe.refl _⟩, DLe.refl _⟩) (TkD.nil _))))) ?_
 rintro m33 v h ⟨k32, f24, l26, β25, ⟨hkk32, hF28⟩, rfl, rfl⟩
 refine GoC.seq ?_
 refine GoC.region ?_
 refine GoO.pure (ps_lss rfl rfl rfl) ?_
 refine GoO.nil ?_
 refine GoK.code ?_
 refine GoC.seq ?_
 refine GoC.condD rfl (fun (hk32 : (k32 : Int) < g.n) => ?_) (fun (hk32 : ¬ (k32 : Int) < g.n) => ?_)
 obtain ⟨m33', rfl⟩ : ∃ x, m33 = x + 1 := ⟨m33 - 1, by omega⟩
 have hb := bind_l hF28; clear hF28
 obtain ⟨qrm33, H, hF28⟩ := hb
 have hnk32 : k32 < g.n.toNat := by omega
 have hIk32 : InI ((k32 : Int) + 1) := inI_cnt hk32 c23
 refine GoC.skip ?_
 refine GoK.code ?_
 refine GoC.seq ?_
 refine GoC.block ?_
 refine GoC.seq ?_
 refine GoC.region ?_
 refine GoO.pure (ps_move rfl rfl) ?_
 refine GoO.pure (ps_assign rfl rfl) ?_
 refine GoO.nil ?_
 refine GoK.code ?_
 refine GoC.seq ?_
 refine GoC.region ?_
 refine GoO.pure (ps_move rfl rfl) ?_
 refine GoO.pure (ps_move rfl rfl) ?_
 refine GoO.pure (ps_shl rfl rfl rfl (by omega)) ?_
 have c34 := ck_l H; replace H := ck_r H
 refine GoO.pure (ps_indexAddrA rfl rfl ⟨Int.natCast_nonneg _, Int.ofNat_lt.2 c34⟩ rfl) ?_
 refine GoO.eff1 (ef_store rfl rfl rfl At.p0 (upd_arr1 (α := U16) (i := k32) (v := (⟨(IntKind.u16.wrap (1 * 2 ^ min k32 16))⟩ : U16)) rfl (by simp only [show El.size U16 = 1 from rfl, List.length_cons, List.length_nil, eldI]; omega) rfl) Nat.zero_lt_one (blt_of (arr_lt (α := U16) (pre := []) (i := k32) (off := 0) (by simp only [show El.size U16 = 1 from rfl, List.length_cons, List.length_nil, eldI]; omega) c34 (by decide) rfl))) ?_
 refine GoO.nil ?_
 refine GoK.code ?_
 refine GoC.region ?_
 refine GoO.pure (ps_move rfl rfl) ?_
 refine GoO.pure (ps_move rfl rfl) ?_
 refine GoO.effB (ef_buildSlice (row ([((k32 : Nat) : Int)] : List Int)) rfl (Parts.cons _ _ _ _ _ _ _ _ ⟨rfl, rfl⟩ (Part.one _ rfl rfl) rfl rfl (Parts.nil _)) rfl rfl rfl rfl) (fun β35 => ?_)
 have c37 := ck_l H; replace H := ck_r H
 refine GoO.effB (ef_append rfl rfl Rem.p2 (Src.own At.p0 (by first | omega | (simp only [subl_length, cpl_length, List.length_set, List.length_append, List.length_cons, List.length_nil, List.length_replicate, row_len]; omega) | (simp only [subl_length, cpl_length, List.length_set, List.length_append, List.length_cons, List.length_nil, List.length_replicate, row_len]; done))) (cat_row (α := Int) (by first | rfl | omega | (simp only [subl_length, cpl_length, List.length_set, List.length_append, List.length_cons, List.length_nil, List.length_replicate, row_len] <;> first | rfl | omega)) (by first | rfl | omega | (simp only [subl_length, cpl_length, List.length_set, List.length_append, List.length_cons, List.length_nil, List.length_replicate, row_len] <;> first | rfl | omega)) (fun _ _ _ _ => rfl)) (by first | omega | (simp only [subl_length, cpl_length, List.length_set, List.length_append, List.length_cons, List.length_nil, List.length_replicate, row_len]; omega) | (simp only [subl_length, cpl_length, List.length_set, List.length_append, List.length_cons, List.length_nil, List.length_replicate, row_len]; done)) (app_le c37 rfl) rfl rfl rfl) (fun β36 => ?_)
 refine GoO.pure (ps_assign rfl rfl) ?_
 refine GoO.nil ?_
 refine GoK.blk ?_
 refine GoK.code ?_
 refine GoC.region ?_
 refine GoO.pure (ps_add rfl rfl rfl hIk32) ?_
 refine GoO.pure (ps_move rfl rfl) ?_
 refine GoO.nil ?_
 obtain rfl := Option.some.inj H
 exact GoK.againJ m33' (by omega) ⟨_, _, _, β36, ⟨by omega, hF28⟩, rfl, rfl⟩ (EnvD.eq rfl (EnvD.eq rfl (EnvD.cons rfl (DLe.len (by first | rfl | omega | (simp only [row_len, gridC_len, rowO_len, List.length_append, List.length_cons, List.length_nil] <;> first | rfl | omega))) (EnvD.eq rfl (EnvD.eq rfl (EnvD.eq rfl (EnvD.nil))))))) (TkD.cons _ _ _ _ _ Rem.p2 (HLe.refl _) (TkD.cons _ _ _ _ _ Rem.p0 (HLe.refl _) (TkD.cons _ _ _ _ _ Rem.p1 (HLe.refl _) (TkD.cons _ _ _ _ _ Rem.p1 (HLe.st ⟨⟨trivial, DLe.refl _⟩, DLe.refl _⟩) (TkD.nil _)))))
 obtain rfl : m33 = 0 := by omega
 refine GoC.exit rfl ?_
 cases hF28
 exact GoK.meet ⟨β25, rfl, rfl⟩ (EnvD.eq rfl (EnvD.cons rfl (DLe.len (by first | rfl | omega | (simp only [row_len, gridC_len, rowO_len] <;> first | rfl | omega))) (EnvD.eq rfl (EnvD.eq rfl (EnvD.nil))))) (TkD.cons _ _ _ _ _ Rem.p0 (HLe.refl _) (TkD.cons _ _ _ _ _ Rem.p0 (HLe.refl _) (TkD.cons _ _ _ _ _ Rem.p0 (HLe.refl _) (TkD.cons _ _ _ _ _ Rem.p0 (HLe.st ⟨⟨trivial, DLe.refl _⟩, DLe.refl _⟩) (TkD.nil _)))))
 rintro v h ⟨β25, rfl, rfl⟩
 have H := HK27; clear HK27
 refine GoK.code ?_
 refine GoC.seq ?_
 refine GoC.region ?_
 refine GoO.pure (ps_assign rfl rfl) ?_
 refine GoO.nil ?_
 refine GoK.code ?_
 refine GoC.seq ?_
 refine GoC.region ?_
 refine GoO.pure (ps_assign rfl rfl) ?_
 refine GoO.nil ?_
 refine GoK.code ?_
 refine GoC.seq ?_
 have hb := bind_l H; clear H
 obtain ⟨q47, hl88, HK45⟩ := hb
 refine GoC.blockJ [(1, .ptr β1 2 0 0)] [.one β1 33 2 (st1 (nth [.v (.int .i64 g.n), slD g.as]))] (fun v h => ∃ (f48 : (Nat → Int)) (f49 : (Nat → U16)) (l50 : (List Int)) (x51 : Int) (x52 : Int) (β41 : BK), q47 = .go (f48, f49, l50, x51, x52) ∧ v = [(12, .v (.int .u16 x51)), (13, .v (.int .i64 x52))] ∧ h = [.one β6 109 144 (arrC (α := Int) [] f48), .one β22 110 12 (arrC (α := U16) [] f49), .one β41 3 1 (row l50)]) ?_ ?_
 refine GoC.loopJ [(1, _)] [.one β1 33 2 (st1 (nth [.v (.int .i64 g.n), slD g.as]))] (fun mQ v h => ∃ (f39 : (Nat → Int)) (f40 : (Nat → U16)) (l42 : (List Int)) (x43 : Int) (x44 : Int) (β41 : BK), loopC (least_Of_B3) mQ (f39, f40, l42, x43, x44) = some q47 ∧ v = [(6, .ptr β6 144 0 0), (9, .ptr β22 12 0 0), (10, .own β41 1 0 l42.length), (12, .v (.int .u16 x43)), (13, .v (.int .i64 x44))] ∧ h = [.one β6 109 144 (arrC (α := Int) [] f39), .one β22 110 12 (arrC (α := U16) [] f40), .one β41 3 1 (row l42)]) 1000000 ⟨_, _, _, _, _, β25, hl88, rfl, rfl⟩ (EnvD.eq rfl (EnvD.eq rfl (EnvD.cons rfl (DLe.len (by first | rfl | omega | (simp only [row_len, gridC_len, rowO_len] <;> first | rfl | omega))) (EnvD.eq rfl (EnvD.eq rfl (EnvD.eq rfl (EnvD.nil))))))) (TkD.cons _ _ _ _ _ Rem.p2 (HLe.refl _) (TkD.cons _ _ _ _ _ Rem.p0 (HLe.refl _) (TkD.cons _ _ _ _ _ Rem.p0 (HLe.refl _) (TkD.cons _ _ _ _ _ Rem.p0 (HLe.st ⟨⟨trivial, DLe.refl _⟩, DLe.refl _⟩) (TkD.nil _))))) ?_
 rintro m53 v h ⟨f39, f40, l42, x43, x44, β41, hF46, rfl, rfl⟩
 obtain ⟨m53', rfl⟩ | rfl : (∃ x, m53 = x + 1) ∨ m53 = 0 := by cases m53 <;> simp
 case inr => cases hF46
 have hb := bind_l hF46; clear hF46
 obtain ⟨qrm53, H, hF46⟩ := hb
 refine GoC.seq ?_
 refine GoC.seq ?_
 refine GoC.region ?_
 refine GoO.pure (ps_move rfl rfl) ?_
 refine GoO.pure (ps_len rfl (by constructor) rfl) ?_
 refine GoO.lenLe (n := l42.length) (x := .tmp 79) rfl (by constructor) own_lenLe (fun ml54 => ?_)
 refine GoO.pure (ps_gtr rfl rfl rfl) ?_
 refine GoO.nil ?_
 refine GoK.code ?_
 refine GoC.condD rfl (fun h55 => ?_) (fun h55 => ?_)
 replace H := ite_t h55 H
 refine GoC.skip ?_
 refine GoK.code ?_
 refine GoC.block ?_
 refine GoC.seq ?_
 refine GoC.region ?_
 refine GoO.pure (ps_move rfl rfl) ?_
 have hb := bind_l H; clear H
 obtain ⟨⟨r56, r57, r58, x59⟩, e60, H⟩ := hb
 refine GoO.effC (ef_call rfl (Take.cons _ _ _ _ _ Rem.p0 (Take.nil _)) (Take.cons _ _ _ _ _ Rem.p1 (Take.nil _)) (least_order_spec l42 f39 β6 e60) (LendL.cons (Lend.all' At.p0 (by first | rfl | omega | (simp only [subl_length, cpl_length, List.length_set, List.length_append, List.length_cons, List.length_nil, List.length_replicate, row_len] <;> first | rfl | omega)) rfl) (LendL.cons (Lend.refl _ _) (LendL.nil))) rfl (least_order_I (r56, r57, r58, x59) β6)) (fun rr HH hp => ?_)
 obtain ⟨rfl, rfl⟩ := hp
 refine GoO.pure (ps_move rfl rfl) ?_
 refine GoO.pure (ps_extract rfl rfl rfl) ?_
 refine GoO.pure (ps_extract rfl rfl rfl) ?_
 refine GoO.pure (ps_extract rfl rfl rfl) ?_
 refine GoO.pure (ps_assign rfl rfl) ?_
 refine GoO.pure (ps_assign rfl rfl) ?_
 refine GoO.pure (ps_assign rfl rfl) ?_
 refine GoO.nil ?_
 refine GoK.code ?_
 have hb := bind_l H; clear H
 obtain ⟨⟨x61, x62⟩, H, HK63⟩ := hb
 refine GoC.seqJ [(1, .ptr β1 2 0 0), (6, .ptr β6 144 0 0), (9, .ptr β22 12 0 0), (10, .own β41 1 0 l42.length), (14, .v (.int .i64 r56)), (15, .v (.int .i64 r57))] [.one β6 109 144 (arrC (α := Int) [] x59), .one β22 110 12 (arrC (α := U16) [] f40), .one β41 3 1 (row l42), .one β1 33 2 (st1 (nth [.v (.int .i64 g.n), slD g.as]))] (fun v h => v = [(12, .v (.int .u16 x61)), (13, .v (.int .i64 x62))] ∧ h = []) ?_ ?_
 refine GoC.seq ?_
 refine GoC.region ?_
 refine GoO.pure (ps_move rfl rfl) ?_
 refine GoO.pure (ps_lss rfl rfl rfl) ?_
 refine GoO.pure (ps_move rfl rfl) ?_
 refine GoO.guardE rfl rfl rfl rfl (fun h65 => ?_) (fun h65 => ?_)
 replace H := ite_f h65 H
 refine GoO.pure (ps_move rfl rfl) ?_
 refine GoO.guardT rfl rfl rfl ?_
 refine GoO.pure (ps_move rfl rfl) ?_
 refine GoO.guardT rfl rfl rfl ?_
 refine GoO.pure (ps_lss rfl rfl rfl) ?_
 refine GoO.pure (ps_pickF rfl rfl rfl) ?_
 refine GoO.nil ?_
 refine GoK.code ?_
 refine GoC.condD rfl (fun h66 => ?_) (fun h66 => ?_)
 replace H := ite_t h66 H
 refine GoC.drawA (.q 0 (.q 1 (.q 2 (.q 3 (.q 4 (.q 5 (.done))))))) follows (by kernel_rfl) ?_
 refine GoP.qN rfl (ps_move rfl rfl) ?_
 refine GoP.qN rfl (ps_move rfl rfl) ?_
 have c67 := ck_l H; replace H := ck_r H
 refine GoP.qN rfl (ps_indexAddrA rfl rfl c67 rfl) ?_
 refine GoP.qN rfl (ps_loadA (α := U16) (i := r56.toNat) (off := 0) rfl At.p1 At.p1 (by simp only [show El.size U16 = 1 from rfl, List.length_cons, List.length_nil, eldI]; omega) (idx_lt (n := 12) c67) rfl rfl rfl) ?_
 refine GoP.qN rfl (ps_assign rfl rfl) ?_
 refine GoP.qN rfl (ps_assign rfl rfl) ?_
 refine GoP.done ?_
 cases H
 exact GoK.meet ⟨rfl, rfl⟩ (EnvD.eq rfl (EnvD.eq rfl (EnvD.eq rfl (EnvD.eq rfl (EnvD.eq rfl (EnvD.eq rfl (EnvD.eq rfl (EnvD.eq rfl (EnvD.nil))))))))) (TkD.cons _ _ _ _ _ Rem.p0 (HLe.refl _) (TkD.cons _ _ _ _ _ Rem.p0 (HLe.refl _) (TkD.cons _ _ _ _ _ Rem.p0 (HLe.refl _) (TkD.cons _ _ _ _ _ Rem.p0 (HLe.st ⟨⟨trivial, DLe.refl _⟩, DLe.refl _⟩) (TkD.nil _)))))
 replace H := ite_f h66 H
 refine GoC.skip ?_
 cases H
 exact GoK.meet ⟨rfl, rfl⟩ (EnvD.eq rfl (EnvD.eq rfl (EnvD.eq rfl (EnvD.eq rfl (EnvD.eq rfl (EnvD.eq rfl (EnvD.eq rfl (EnvD.eq rfl (EnvD.nil))))))))) (TkD.cons _ _ _ _ _ Rem.p0 (HLe.refl _) (TkD.cons _ _ _ _ _ Rem.p0 (HLe.refl _) (TkD.cons _ _ _ _ _ Rem.p0 (HLe.refl _) (TkD.cons _ _ _ _ _ Rem.p0 (HLe.st ⟨⟨trivial, DLe.refl _⟩, DLe.refl _⟩) (TkD.nil _)))))
 replace H := ite_t h65 H
 refine GoO.guardF rfl rfl rfl rfl ?_
 refine GoO.guardF rfl rfl rfl rfl ?_
 refine GoO.pure (ps_pickT rfl rfl rfl) ?_
 refine GoO.nil ?_
 refine GoK.code ?_
 refine GoC.condT rfl ?_
 refine GoC.drawA (.q 0 (.q 1 (.q 2 (.q 3 (.q 4 (.q 5 (.done))))))) follows (by kernel_rfl) ?_
 refine GoP.qN rfl (ps_move rfl rfl) ?_
 refine GoP.qN rfl (ps_move rfl rfl) ?_
 have c68 := ck_l H; replace H := ck_r H
 refine GoP.qN rfl (ps_indexAddrA rfl rfl c68 rfl) ?_
 refine GoP.qN rfl (ps_loadA (α := U16) (i := r56.toNat) (off := 0) rfl At.p1 At.p1 (by simp only [show El.size U16 = 1 from rfl, List.length_cons, List.length_nil, eldI]; omega) (idx_lt (n := 12) c68) rfl rfl rfl) ?_
 refine GoP.qN rfl (ps_assign rfl rfl) ?_
 refine GoP.qN rfl (ps_assign rfl rfl) ?_
 refine GoP.done ?_
 cases H
 exact GoK.meet ⟨rfl, rfl⟩ (EnvD.eq rfl (EnvD.eq rfl (EnvD.eq rfl (EnvD.eq rfl (EnvD.eq rfl (EnvD.eq rfl (EnvD.eq rfl (EnvD.eq rfl (EnvD.nil))))))))) (TkD.cons _ _ _ _ _ Rem.p0 (HLe.refl _) (TkD.cons _ _ _ _ _ Rem.p0 (HLe.refl _) (TkD.cons _ _ _ _ _ Rem.p0 (HLe.refl _) (TkD.cons _ _ _ _ _ Rem.p0 (HLe.st ⟨⟨trivial, DLe.refl _⟩, DLe.refl _⟩) (TkD.nil _)))))
 rintro v h ⟨rfl, rfl⟩
 have H := HK63; clear HK63
 refine GoC.seq ?_
 refine GoC.drawP (.q 0 (.q 1 (.q 3 (.q 4 (.two 2 5 (.one 5 (.q 6 (.q 7 (.one 8 (.done))))) (.one 2 (.q 6 (.q 7 (.one 8 (.done)))))))))) [] follows (by kernel_rfl) (Take.nil _) ?_
 refine GoP.qN rfl (ps_move rfl rfl) ?_
 have c69 := ck_l H; replace H := ck_r H
 refine GoP.qN rfl (ps_indexAddrA rfl rfl c69 rfl) ?_
 refine GoP.qN rfl (ps_move rfl rfl) ?_
 have c70 := ck_l H; replace H := ck_r H
 refine GoP.qN rfl (ps_indexAddrA rfl rfl c70 rfl) ?_
 apply GoP.fork0
 exact rfl
 exact rfl
 exact trivial
 exact trivial
 exact Eff.pure (H1 := [.one β6 109 144 (arrC (α := Int) [] x59), .one β22 110 12 (arrC (α := U16) [] f40), .one β41 3 1 (row l42), .one β1 33 2 (st1 (nth [.v (.int .i64 g.n), slD g.as]))]) (ps_loadA (α := U16) (i := r57.toNat) (off := 0) rfl At.p1 At.p1 (by simp only [show El.size U16 = 1 from rfl, List.length_cons, List.length_nil, eldI]; omega) (idx_lt (n := 12) c69) rfl rfl rfl)
 exact Eff.pure (H1 := [.one β6 109 144 (arrC (α := Int) [] x59), .one β22 110 12 (arrC (α := U16) [] f40), .one β41 3 1 (row l42), .one β1 33 2 (st1 (nth [.v (.int .i64 g.n), slD g.as]))]) (ps_loadA (α := U16) (i := r56.toNat) (off := 0) rfl At.p1 At.p1 (by simp only [show El.size U16 = 1 from rfl, List.length_cons, List.length_nil, eldI]; omega) (idx_lt (n := 12) c70) rfl rfl rfl)
 exact (Take.nil _)
 exact (Take.nil _)
 intro hQ
 rintro _ rfl
 refine GoP.oneN rfl (ps_loadA (α := U16) (i := r56.toNat) (off := 0) rfl At.p1 At.p1 (by simp only [show El.size U16 = 1 from rfl, List.length_cons, List.length_nil, eldI]; omega) (idx_lt (n := 12) c70) rfl rfl rfl) (Take.nil _) ?_
 refine GoP.qN rfl (ps_or rfl rfl rfl) ?_
 refine GoP.qN rfl (ps_indexAddrA rfl rfl c69 rfl) ?_
 refine GoP.one1 rfl trivial (ef_store rfl rfl rfl At.p1 (upd_arr1 (α := U16) (i := r57.toNat) (v := (⟨(bitsOf .or .u16 ((f40 r57.toNat).v) ((f40 r56.toNat).v))⟩ : U16)) rfl (by simp only [show El.size U16 = 1 from rfl, List.length_cons, List.length_nil, eldI]; omega) rfl) Nat.zero_lt_one (blt_of (arr_lt (α := U16) (pre := []) (i := r57.toNat) (off := 0) (by simp only [show El.size U16 = 1 from rfl, List.length_cons, List.length_nil, eldI]; omega) (idx_lt (n := 12) c69) (by decide) rfl))) (Take.cons _ _ _ _ _ Rem.p1 (Take.nil _)) ?_
 exact GoP.done (hQ)
 intro hQ
 rintro _ rfl
 refine GoP.oneN rfl (ps_loadA (α := U16) (i := r57.toNat) (off := 0) rfl At.p1 At.p1 (by simp only [show El.size U16 = 1 from rfl, List.length_cons, List.length_nil, eldI]; omega) (idx_lt (n := 12) c69) rfl rfl rfl) (Take.nil _) ?_
 refine GoP.qN rfl (ps_or rfl rfl rfl) ?_
 refine GoP.qN rfl (ps_indexAddrA rfl rfl c69 rfl) ?_
 refine GoP.one1 rfl trivial (ef_store rfl rfl rfl At.p1 (upd_arr1 (α := U16) (i := r57.toNat) (v := (⟨(bitsOf .or .u16 ((f40 r57.toNat).v) ((f40 r56.toNat).v))⟩ : U16)) rfl (by simp only [show El.size U16 = 1 from rfl, List.length_cons, List.length_nil, eldI]; omega) rfl) Nat.zero_lt_one (blt_of (arr_lt (α := U16) (pre := []) (i := r57.toNat) (off := 0) (by simp only [show El.size U16 = 1 from rfl, List.length_cons, List.length_nil, eldI]; omega) (idx_lt (n := 12) c69) (by decide) rfl))) (Take.cons _ _ _ _ _ Rem.p1 (Take.nil _)) ?_
 refine GoP.done (GoK.le ?_ (hQ))
 refine Le.ofDW ?_ (TkD.cons _ _ _ _ _ Rem.p0 (HLe.refl _) (TkD.cons _ _ _ _ _ Rem.p0 (HLe.refl _) (TkD.cons _ _ _ _ _ Rem.p0 (HLe.refl _) (TkD.cons _ _ _ _ _ Rem.p0 (HLe.refl _) (TkD.nil _)))))
 repeat (first | exact EnvLeW.nil | refine EnvLeW.cons rfl ?_ | refine EnvLeW.skip rfl ?_)
 refine GoK.code ?_
 refine GoC.seq ?_
 refine GoC.region ?_
 refine GoO.pure (ps_assign rfl rfl) ?_
 refine GoO.nil ?_
 refine GoK.code ?_
 refine GoC.seq ?_
 refine GoC.seq ?_
 refine GoC.region ?_
 refine GoO.pure (ps_move rfl rfl) ?_
 refine GoO.pure (ps_len rfl (by constructor) rfl) ?_
 refine GoO.pure (ps_move rfl rfl) ?_
 refine GoO.nil ?_
 refine GoK.code ?_
 have hb := bind_l H; clear H
 obtain ⟨⟨f77, l78⟩, hl87, HK74⟩ := hb
 refine GoC.blockJ [(1, .ptr β1 2 0 0), (9, .ptr β22 12 0 0), (12, .v (.int .u16 x61)), (13, .v (.int .i64 x62)), (15, .v (.int .i64 r57))] [.one β22 110 12 (arrC (α := U16) [] (updF f40 r57.toNat (⟨(bitsOf .or .u16 ((f40 r57.toNat).v) ((f40 r56.toNat).v))⟩ : U16))), .one β41 3 1 (row l42), .one β1 33 2 (st1 (nth [.v (.int .i64 g.n), slD g.as]))] (fun v h => ∃ (β72 : BK), v = [(6, .ptr β6 144 0 0), (17, .own β72 1 0 l78.length)] ∧ h = [.one β6 109 144 (arrC (α := Int) [] f77), .one β72 3 1 (row l78)]) ?_ ?_
 refine GoC.loopJ [(1, _), (9, _), (12, _), (13, _), (14, _), (15, _), (107, _), (108, _)] [.one β22 110 12 (arrC (α := U16) [] (updF f40 r57.toNat (⟨(bitsOf .or .u16 ((f40 r57.toNat).v) ((f40 r56.toNat).v))⟩ : U16))), .one β41 3 1 (row l42), .one β1 33 2 (st1 (nth [.v (.int .i64 g.n), slD g.as]))] (fun mQ v h => ∃ (k79 : Nat) (f71 : (Nat → Int)) (l73 : (List Int)) (β72 : BK), (k79 + mQ = l42.length ∧ forN (least_Of_B4 l42 r56 r57) mQ k79 (f71, l73) = some (f77, l78)) ∧ v = [(109, .v (.int .i64 ((k79 : Nat) : Int))), (6, .ptr β6 144 0 0), (17, .own β72 1 0 l73.length)] ∧ h = [.one β6 109 144 (arrC (α := Int) [] f71), .one β72 3 1 (row l73)]) l42.length ⟨_, _, _, ⟨0, 0, 0⟩, ⟨by omega, hl87⟩, rfl, rfl⟩ (EnvD.eq rfl (EnvD.eq rfl (EnvD.cons rfl (DLe.nilOwn) (EnvD.eq rfl (EnvD.eq rfl (EnvD.eq rfl (EnvD.eq rfl (EnvD.eq rfl (EnvD.eq rfl (EnvD.eq rfl (EnvD.eq rfl (EnvD.nil)))))))))))) (TkD.cons _ _ _ _ _ Rem.p0 (HLe.refl _) (TkD.no _ _ _ _ _ rfl (TkD.cons _ _ _ _ _ Rem.p0 (HLe.refl _) (TkD.cons _ _ _ _ _ Rem.p0 (HLe.refl _) (TkD.cons _ _ _ _ _ Rem.p0 (HLe.st ⟨⟨trivial, DLe.refl _⟩, DLe.refl _⟩) (TkD.nil _)))))) ?_
 rintro m80 v h ⟨k79, f71, l73, β72, ⟨hkk79, hF75⟩, rfl, rfl⟩
 refine GoC.seq ?_
 refine GoC.region ?_
 refine GoO.pure (ps_lss rfl rfl rfl) ?_
 refine GoO.nil ?_
 refine GoK.code ?_
 refine GoC.seq ?_
 refine GoC.condD rfl (fun (hk79 : (k79 : Int) < ((l42.length : Nat) : Int)) => ?_) (fun (hk79 : ¬ (k79 : Int) < ((l42.length : Nat) : Int)) => ?_)
 obtain ⟨m80', rfl⟩ : ∃ x, m80 = x + 1 := ⟨m80 - 1, by omega⟩
 have hb := bind_l hF75; clear hF75
 obtain ⟨qrm80, H, hF75⟩ := hb
 have hnk79 : k79 < l42.length := by omega
 have hIk79 : InI ((k79 : Int) + 1) := inI_len hk79 ml54
 refine GoC.skip ?_
 refine GoK.code ?_
 refine GoC.seq ?_
 refine GoC.block ?_
 refine GoC.seq ?_
 refine GoC.region ?_
 refine GoO.pure (ps_indexAddr0N rfl rfl hnk79 rfl) ?_
 refine GoO.pure (ps_load rfl At.p3 At.p3 hnk79 rfl rfl) ?_
 refine GoO.pure (ps_assign rfl rfl) ?_
 refine GoO.nil ?_
 refine GoK.code ?_
 refine GoC.seq ?_
 refine GoC.region ?_
 refine GoO.pure (ps_move rfl rfl) ?_
 refine GoO.pure (ps_move rfl rfl) ?_
 refine GoO.pure (ps_neq rfl rfl rfl) ?_
 refine GoO.nil ?_
 refine GoK.code ?_
 refine GoC.condD rfl (fun h81 => ?_) (fun h81 => ?_)
 replace H := ite_t h81 H
 refine GoC.seq ?_
 refine GoC.region ?_
 refine GoO.pure (ps_move rfl rfl) ?_
 refine GoO.pure (ps_move rfl rfl) ?_
 refine GoO.effB (ef_buildSlice (row ([(l42.getD k79 (0 : Int))] : List Int)) rfl (Parts.cons _ _ _ _ _ _ _ _ ⟨rfl, rfl⟩ (Part.one _ rfl rfl) rfl rfl (Parts.nil _)) rfl rfl rfl rfl) (fun β82 => ?_)
 have c84 := ck_l H; replace H := ck_r H
 refine GoO.effB (ef_append rfl rfl Rem.p2 (Src.own At.p0 (by first | omega | (simp only [subl_length, cpl_length, List.length_set, List.length_append, List.length_cons, List.length_nil, List.length_replicate, row_len]; omega) | (simp only [subl_length, cpl_length, List.length_set, List.length_append, List.length_cons, List.length_nil, List.length_replicate, row_len]; done))) (cat_row (α := Int) (by first | rfl | omega | (simp only [subl_length, cpl_length, List.length_set, List.length_append, List.length_cons, List.length_nil, List.length_replicate, row_len] <;> first | rfl | omega)) (by first | rfl | omega | (simp only [subl_length, cpl_length, List.length_set, List.length_append, List.length_cons, List.length_nil, List.length_replicate, row_len] <;> first | rfl | omega)) (fun _ _ _ _ => rfl)) (by first | omega | (simp only [subl_length, cpl_length, List.length_set, List.length_append, List.length_cons, List.length_nil, List.length_replicate, row_len]; omega) | (simp only [subl_length, cpl_length, List.length_set, List.length_append, List.length_cons, List.length_nil, List.length_replicate, row_len]; done)) (app_le c84 rfl) rfl rfl rfl) (fun β83 => ?_)
 refine GoO.pure (ps_assign rfl rfl) ?_
 refine GoO.nil ?_
 refine GoK.code ?_
 refine GoC.seq ?_
 refine GoC.drawP (.q 0 (.q 1 (.q 2 (.q 3 (.q 5 (.q 6 (.q 7 (.q 8 (.q 11 (.two 4 9 (.one 9 (.q 10 (.q 12 (.one 13 (.done))))) (.one 4 (.q 10 (.q 12 (.one 13 (.done))))))))))))))) [] follows (by kernel_rfl) (Take.nil _) ?_
 refine GoP.qN rfl (ps_move rfl rfl) ?_
 refine GoP.qN rfl (ps_move rfl rfl) ?_
 refine GoP.qN rfl (ps_indexAddrA rfl rfl c69 rfl) ?_
 have c85 := ck_l H; replace H := ck_r H
 refine GoP.qN rfl (ps_indexAddrA rfl rfl c85 rfl) ?_
 refine GoP.qN rfl (ps_move rfl rfl) ?_
 refine GoP.qN rfl (ps_move rfl rfl) ?_
 refine GoP.qN rfl (ps_indexAddrA rfl rfl c70 rfl) ?_
 refine GoP.qN rfl (ps_indexAddrA rfl rfl c85 rfl) ?_
 refine GoP.qN rfl (ps_indexAddrA rfl rfl c69 rfl) ?_
 have c86 := ck_l H; replace H := ck_r H
 apply GoP.fork0
 exact rfl
 exact rfl
 exact trivial
 exact trivial
 exact Eff.pure (H1 := [.one β83 3 1 (row (l73 ++ ([(l42.getD k79 (0 : Int))] : List Int))), .one β82 3 1 (row ([(l42.getD k79 (0 : Int))] : List Int)), .one β6 109 144 (arrC (α := Int) [] f71), .one β22 110 12 (arrC (α := U16) [] (updF f40 r57.toNat (⟨(bitsOf .or .u16 ((f40 r57.toNat).v) ((f40 r56.toNat).v))⟩ : U16))), .one β41 3 1 (row l42), .one β1 33 2 (st1 (nth [.v (.int .i64 g.n), slD g.as]))]) (ps_loadA (α := Int) (i := ((r57.toNat * 12) + (l42.getD k79 (0 : Int)).toNat)) (off := 0) rfl At.p2 At.p2 (by simp only [show El.size Int = 1 from rfl, List.length_cons, List.length_nil, eldI]; omega) (by have h1 := (idx_lt (n := 12) c69); have h2 := (idx_lt (n := 12) c85); omega : ((r57.toNat * 12) + (l42.getD k79 (0 : Int)).toNat) < 144) rfl rfl rfl)
 exact Eff.pure (H1 := [.one β83 3 1 (row (l73 ++ ([(l42.getD k79 (0 : Int))] : List Int))), .one β82 3 1 (row ([(l42.getD k79 (0 : Int))] : List Int)), .one β6 109 144 (arrC (α := Int) [] f71), .one β22 110 12 (arrC (α := U16) [] (updF f40 r57.toNat (⟨(bitsOf .or .u16 ((f40 r57.toNat).v) ((f40 r56.toNat).v))⟩ : U16))), .one β41 3 1 (row l42), .one β1 33 2 (st1 (nth [.v (.int .i64 g.n), slD g.as]))]) (ps_loadA (α := Int) (i := ((r56.toNat * 12) + (l42.getD k79 (0 : Int)).toNat)) (off := 0) rfl At.p2 At.p2 (by simp only [show El.size Int = 1 from rfl, List.length_cons, List.length_nil, eldI]; omega) (by have h1 := (idx_lt (n := 12) c70); have h2 := (idx_lt (n := 12) c85); omega : ((r56.toNat * 12) + (l42.getD k79 (0 : Int)).toNat) < 144) rfl rfl rfl)
 exact (Take.nil _)
 exact (Take.nil _)
 intro hQ
 rintro _ rfl
 refine GoP.oneN rfl (ps_loadA (α := Int) (i := ((r56.toNat * 12) + (l42.getD k79 (0 : Int)).toNat)) (off := 0) rfl At.p2 At.p2 (by simp only [show El.size Int = 1 from rfl, List.length_cons, List.length_nil, eldI]; omega) (by have h1 := (idx_lt (n := 12) c70); have h2 := (idx_lt (n := 12) c85); omega : ((r56.toNat * 12) + (l42.getD k79 (0 : Int)).toNat) < 144) rfl rfl rfl) (Take.nil _) ?_
 refine GoP.qN rfl (ps_add rfl rfl rfl c86) ?_
 refine GoP.qN rfl (ps_indexAddrA rfl rfl c85 rfl) ?_
 refine GoP.one1 rfl trivial (ef_store rfl rfl rfl At.p2 (upd_arr1 (α := Int) (i := ((r57.toNat * 12) + (l42.getD k79 (0 : Int)).toNat)) (v := ((f71 ((r57.toNat * 12) + (l42.getD k79 (0 : Int)).toNat)) + (f71 ((r56.toNat * 12) + (l42.getD k79 (0 : Int)).toNat)))) rfl (by simp only [show El.size Int = 1 from rfl, List.length_cons, List.length_nil, eldI]; omega) rfl) Nat.zero_lt_one (blt_of (arr_lt (α := Int) (pre := []) (i := ((r57.toNat * 12) + (l42.getD k79 (0 : Int)).toNat)) (off := 0) (by simp only [show El.size Int = 1 from rfl, List.length_cons, List.length_nil, eldI]; omega) (by have h1 := (idx_lt (n := 12) c69); have h2 := (idx_lt (n := 12) c85); omega : ((r57.toNat * 12) + (l42.getD k79 (0 : Int)).toNat) < 144) (by decide) rfl))) (Take.cons _ _ _ _ _ Rem.p2 (Take.nil _)) ?_
 exact GoP.done (hQ)
 intro hQ
 rintro _ rfl
 refine GoP.oneN rfl (ps_loadA (α := Int) (i := ((r57.toNat * 12) + (l42.getD k79 (0 : Int)).toNat)) (off := 0) rfl At.p2 At.p2 (by simp only [show El.size Int = 1 from rfl, List.length_cons, List.length_nil, eldI]; omega) (by have h1 := (idx_lt (n := 12) c69); have h2 := (idx_lt (n := 12) c85); omega : ((r57.toNat * 12) + (l42.getD k79 (0 : Int)).toNat) < 144) rfl rfl rfl) (Take.nil _) ?_
 refine GoP.qN rfl (ps_add rfl rfl rfl c86) ?_
 refine GoP.qN rfl (ps_indexAddrA rfl rfl c85 rfl) ?_
 refine GoP.one1 rfl trivial (ef_store rfl rfl rfl At.p2 (upd_arr1 (α := Int) (i := ((r57.toNat * 12) + (l42.getD k79 (0 : Int)).toNat)) (v := ((f71 ((r57.toNat * 12) + (l42.getD k79 (0 : Int)).toNat)) + (f71 ((r56.toNat * 12) + (l42.getD k79 (0 : Int)).toNat)))) rfl (by simp only [show El.size Int = 1 from rfl, List.length_cons, List.length_nil, eldI]; omega) rfl) Nat.zero_lt_one (blt_of (arr_lt (α := Int) (pre := []) (i := ((r57.toNat * 12) + (l42.getD k79 (0 : Int)).toNat)) (off := 0) (by simp only [show El.size Int = 1 from rfl, List.length_cons, List.length_nil, eldI]; omega) (by have h1 := (idx_lt (n := 12) c69); have h2 := (idx_lt (n := 12) c85); omega : ((r57.toNat * 12) + (l42.getD k79 (0 : Int)).toNat) < 144) (by decide) rfl))) (Take.cons _ _ _ _ _ Rem.p2 (Take.nil _)) ?_
 refine GoP.done (GoK.le ?_ (hQ))
 refine Le.ofDW ?_ (TkD.cons _ _ _ _ _ Rem.p0 (HLe.refl _) (TkD.cons _ _ _ _ _ Rem.p0 (HLe.refl _) (TkD.cons _ _ _ _ _ Rem.p0 (HLe.refl _) (TkD.cons _ _ _ _ _ Rem.p0 (HLe.refl _) (TkD.cons _ _ _ _ _ Rem.p0 (HLe.refl _) (TkD.cons _ _ _ _ _ Rem.p0 (HLe.refl _) (TkD.nil _)))))))
 repeat (first | exact EnvLeW.nil | refine EnvLeW.cons rfl ?_ | refine EnvLeW.skip rfl ?_)
 refine GoK.code ?_
 refine GoC.drawP (.q 0 (.q 1 (.q 2 (.q 3 (.q 4 (.q 5 (.q 7 (.one 6 (.q 8 (.one 9 (.done))))))))))) [] follows (by kernel_rfl) (Take.nil _) ?_
 refine GoP.qN rfl (ps_move rfl rfl) ?_
 refine GoP.qN rfl (ps_move rfl rfl) ?_
 refine GoP.qN rfl (ps_move rfl rfl) ?_
 refine GoP.qN rfl (ps_move rfl rfl) ?_
 refine GoP.qN rfl (ps_indexAddrA rfl rfl c69 rfl) ?_
 refine GoP.qN rfl (ps_indexAddrA rfl rfl c85 rfl) ?_
 refine GoP.qN rfl (ps_indexAddrA rfl rfl c85 rfl) ?_
 refine GoP.oneN rfl (ps_loadA (α := Int) (i := ((r57.toNat * 12) + (l42.getD k79 (0 : Int)).toNat)) (off := 0) rfl At.p2 At.p2 (by simp only [show El.size Int = 1 from rfl, List.length_cons, List.length_nil, eldI]; omega) (by have h1 := (idx_lt (n := 12) c69); have h2 := (idx_lt (n := 12) c85); omega : ((r57.toNat * 12) + (l42.getD k79 (0 : Int)).toNat) < 144) rfl rfl rfl) (Take.nil _) ?_
 refine GoP.qN rfl (ps_indexAddrA rfl rfl c69 rfl) ?_
 refine GoP.one1 rfl trivial (ef_store rfl rfl rfl At.p2 (upd_arr1 (α := Int) (i := (((l42.getD k79 (0 : Int)).toNat * 12) + r57.toNat)) (v := ((updF f71 ((r57.toNat * 12) + (l42.getD k79 (0 : Int)).toNat) ((f71 ((r57.toNat * 12) + (l42.getD k79 (0 : Int)).toNat)) + (f71 ((r56.toNat * 12) + (l42.getD k79 (0 : Int)).toNat)))) ((r57.toNat * 12) + (l42.getD k79 (0 : Int)).toNat))) rfl (by simp only [show El.size Int = 1 from rfl, List.length_cons, List.length_nil, eldI]; omega) rfl) Nat.zero_lt_one (blt_of (arr_lt (α := Int) (pre := []) (i := (((l42.getD k79 (0 : Int)).toNat * 12) + r57.toNat)) (off := 0) (by simp only [show El.size Int = 1 from rfl, List.length_cons, List.length_nil, eldI]; omega) (by have h1 := (idx_lt (n := 12) c85); have h2 := (idx_lt (n := 12) c69); omega : (((l42.getD k79 (0 : Int)).toNat * 12) + r57.toNat) < 144) (by decide) rfl))) (Take.cons _ _ _ _ _ Rem.p2 (Take.nil _)) ?_
 refine GoP.done ?_
 refine GoK.blk ?_
 refine GoK.code ?_
 refine GoC.region ?_
 refine GoO.pure (ps_add rfl rfl rfl hIk79) ?_
 refine GoO.pure (ps_move rfl rfl) ?_
 refine GoO.nil ?_
 obtain rfl := Option.some.inj H
 exact GoK.againJ m80' (by omega) ⟨_, _, _, β83, ⟨by omega, hF75⟩, rfl, rfl⟩ (EnvD.eq rfl (EnvD.eq rfl (EnvD.cons rfl (DLe.len (by first | rfl | omega | (simp only [row_len, gridC_len, rowO_len, List.length_append, List.length_cons, List.length_nil] <;> first | rfl | omega))) (EnvD.eq rfl (EnvD.eq rfl (EnvD.eq rfl (EnvD.eq rfl (EnvD.eq rfl (EnvD.eq rfl (EnvD.eq rfl (EnvD.eq rfl (EnvD.nil)))))))))))) (TkD.cons _ _ _ _ _ Rem.p2 (HLe.refl _) (TkD.cons _ _ _ _ _ Rem.p0 (HLe.refl _) (TkD.cons _ _ _ _ _ Rem.p1 (HLe.refl _) (TkD.cons _ _ _ _ _ Rem.p1 (HLe.refl _) (TkD.cons _ _ _ _ _ Rem.p1 (HLe.st ⟨⟨trivial, DLe.refl _⟩, DLe.refl _⟩) (TkD.nil _))))))
 replace H := ite_f h81 H
 refine GoC.skip ?_
 refine GoK.blk ?_
 refine GoK.code ?_
 refine GoC.region ?_
 refine GoO.pure (ps_add rfl rfl rfl hIk79) ?_
 refine GoO.pure (ps_move rfl rfl) ?_
 refine GoO.nil ?_
 obtain rfl := Option.some.inj H
 exact GoK.againJ m80' (by omega) ⟨_, _, _, β72, ⟨by omega, hF75⟩, rfl, rfl⟩ (EnvD.eq rfl (EnvD.eq rfl (EnvD.eq rfl (EnvD.eq rfl (EnvD.eq rfl (EnvD.eq rfl (EnvD.eq rfl (EnvD.eq rfl (EnvD.eq rfl (EnvD.eq rfl (EnvD.eq rfl (EnvD.nil)))))))))))) (TkD.cons _ _ _ _ _ Rem.p0 (HLe.refl _) (TkD.cons _ _ _ _ _ Rem.p0 (HLe.refl _) (TkD.cons _ _ _ _ _ Rem.p0 (HLe.refl _) (TkD.cons _ _ _ _ _ Rem.p0 (HLe.refl _) (TkD.cons _ _ _ _ _ Rem.p0 (HLe.st ⟨⟨trivial, DLe.refl _⟩, DLe.refl _⟩) (TkD.nil _))))))
 obtain rfl : m80 = 0 := by omega
 refine GoC.exit rfl ?_
 cases hF75
 exact GoK.meet ⟨β72, rfl, rfl⟩ (EnvD.eq rfl (EnvD.cons rfl (DLe.len (by first | rfl | omega | (simp only [row_len, gridC_len, rowO_len] <;> first | rfl | omega))) (EnvD.eq rfl (EnvD.eq rfl (EnvD.eq rfl (EnvD.eq rfl (EnvD.eq rfl (EnvD.nil)))))))) (TkD.cons _ _ _ _ _ Rem.p0 (HLe.refl _) (TkD.cons _ _ _ _ _ Rem.p0 (HLe.refl _) (TkD.cons _ _ _ _ _ Rem.p0 (HLe.refl _) (TkD.cons _ _ _ _ _ Rem.p0 (HLe.refl _) (TkD.cons _ _ _ _ _ Rem.p0 (HLe.st ⟨⟨trivial, DLe.refl _⟩, DLe.refl _⟩) (TkD.nil _))))))
 rintro v h ⟨β72, rfl, rfl⟩
 have H := HK74; clear HK74
 refine GoK.code ?_
 refine GoC.seq ?_
 refine GoC.region ?_
 refine GoO.pure (ps_move rfl rfl) ?_
 refine GoO.pure (ps_move rfl rfl) ?_
 refine GoO.pure (ps_indexAddrA rfl rfl c69 rfl) ?_
 refine GoO.pure (ps_indexAddrA rfl rfl c69 rfl) ?_
 refine GoO.eff1 (ef_store rfl rfl rfl At.p0 (upd_arr1 (α := Int) (i := ((r57.toNat * 12) + r57.toNat)) (v := 0) rfl (by simp only [show El.size Int = 1 from rfl, List.length_cons, List.length_nil, eldI]; omega) rfl) Nat.zero_lt_one (blt_of (arr_lt (α := Int) (pre := []) (i := ((r57.toNat * 12) + r57.toNat)) (off := 0) (by simp only [show El.size Int = 1 from rfl, List.length_cons, List.length_nil, eldI]; omega) (by have h1 := (idx_lt (n := 12) c69); have h2 := (idx_lt (n := 12) c69); omega : ((r57.toNat * 12) + r57.toNat) < 144) (by decide) rfl))) ?_
 refine GoO.nil ?_
 refine GoK.code ?_
 refine GoC.region ?_
 refine GoO.pure (ps_move rfl rfl) ?_
 refine GoO.pure (ps_assign rfl rfl) ?_
 refine GoO.nil ?_
 refine GoK.blk ?_
 obtain rfl := Option.some.inj H
 exact GoK.againJ m53' (by omega) ⟨_, _, _, _, _, β72, hF46, rfl, rfl⟩ (EnvD.eq rfl (EnvD.eq rfl (EnvD.cons rfl (DLe.len (by first | rfl | omega | (simp only [row_len, gridC_len, rowO_len] <;> first | rfl | omega))) (EnvD.eq rfl (EnvD.eq rfl (EnvD.eq rfl (EnvD.nil))))))) (TkD.cons _ _ _ _ _ Rem.p0 (HLe.refl _) (TkD.cons _ _ _ _ _ Rem.p1 (HLe.refl _) (TkD.cons _ _ _ _ _ Rem.p0 (HLe.refl _) (TkD.cons _ _ _ _ _ Rem.p1 (HLe.st ⟨⟨trivial, DLe.refl _⟩, DLe.refl _⟩) (TkD.nil _)))))
 replace H := ite_f h55 H
 refine GoC.exit rfl ?_
 obtain rfl := Option.some.inj H
 obtain rfl := Option.some.inj hF46
 exact GoK.meet ⟨_, _, _, _, _, β41, rfl, rfl, rfl⟩ (EnvD.eq rfl (EnvD.eq rfl (EnvD.eq rfl (EnvD.nil)))) (TkD.cons _ _ _ _ _ Rem.p0 (HLe.refl _) (TkD.cons _ _ _ _ _ Rem.p0 (HLe.refl _) (TkD.cons _ _ _ _ _ Rem.p0 (HLe.refl _) (TkD.cons _ _ _ _ _ Rem.p0 (HLe.st ⟨⟨trivial, DLe.refl _⟩, DLe.refl _⟩) (TkD.nil _)))))
 rintro v h ⟨f48, f49, l50, x51, x52, β41, rfl, rfl, rfl⟩
 have H := HK45; clear HK45
 refine GoK.code ?_
 have hb := bind_l H; clear H
 obtain ⟨x89, H, HK90⟩ := hb
 refine GoC.seqJ [(13, .v (.int .i64 x52))] [.one β6 109 144 (arrC (α := Int) [] f48), .one β22 110 12 (arrC (α := U16) [] f49), .one β41 3 1 (row l50), .one β1 33 2 (st1 (nth [.v (.int .i64 g.n), slD g.as]))] (fun v h => v = [(12, .v (.int .u16 x89))] ∧ h = []) ?_ ?_
 refine GoC.seq ?_
 refine GoC.region ?_
 refine GoO.pure (ps_move rfl rfl) ?_
 refine GoO.pure (ps_and rfl rfl rfl) ?_
 refine GoO.pure (ps_eql rfl rfl rfl) ?_
 refine GoO.nil ?_
 refine GoK.code ?_
 refine GoC.condD rfl (fun h92 => ?_) (fun h92 => ?_)
 replace H := ite_t h92 H
 refine GoC.region ?_
 refine GoO.pure (ps_fieldAddr rfl rfl) ?_
 refine GoO.pure (ps_load rfl At.p3 At.p3 Nat.zero_lt_one rfl rfl) ?_
 have c93 := ck_l H; replace H := ck_r H
 refine GoO.pure (ps_shl rfl rfl rfl c93) ?_
 refine GoO.pure (ps_subw rfl rfl rfl) ?_
 refine GoO.pure (ps_move rfl rfl) ?_
 refine GoO.pure (ps_andNot rfl rfl rfl) ?_
 refine GoO.pure (ps_assign rfl rfl) ?_
 refine GoO.nil ?_
 cases H
 exact GoK.meet ⟨rfl, rfl⟩ (EnvD.eq rfl (EnvD.eq rfl (EnvD.nil))) (TkD.cons _ _ _ _ _ Rem.p0 (HLe.refl _) (TkD.cons _ _ _ _ _ Rem.p0 (HLe.refl _) (TkD.cons _ _ _ _ _ Rem.p0 (HLe.refl _) (TkD.cons _ _ _ _ _ Rem.p0 (HLe.st ⟨⟨trivial, DLe.refl _⟩, DLe.refl _⟩) (TkD.nil _)))))
 replace H := ite_f h92 H
 refine GoC.skip ?_
 cases H
 exact GoK.meet ⟨rfl, rfl⟩ (EnvD.eq rfl (EnvD.eq rfl (EnvD.nil))) (TkD.cons _ _ _ _ _ Rem.p0 (HLe.refl _) (TkD.cons _ _ _ _ _ Rem.p0 (HLe.refl _) (TkD.cons _ _ _ _ _ Rem.p0 (HLe.refl _) (TkD.cons _ _ _ _ _ Rem.p0 (HLe.st ⟨⟨trivial, DLe.refl _⟩, DLe.refl _⟩) (TkD.nil _)))))
 rintro v h ⟨rfl, rfl⟩
 have H := HK90; clear HK90
 refine GoC.seq ?_
 refine GoC.region ?_
 refine GoO.pure (ps_move rfl rfl) ?_
 refine GoO.pure (ps_move rfl rfl) ?_
 refine GoO.pure (ps_assign rfl rfl) ?_
 refine GoO.pure (ps_assign rfl rfl) ?_
 refine GoO.pure (ps_assign rfl rfl) ?_
 refine GoO.nil ?_
 refine GoK.code ?_
 obtain rfl := Option.some.inj H
 exact GoC.retL (ds := [.v (.int .u16 x89), .v (.int .i64 x52), .v (.int .i64 0)]) Try.results44 (ResL.cons (ResD.tmp rfl) (ResL.cons (ResD.tmp rfl) (ResL.cons (ResD.tmp rfl) (ResL.nil)))) (Take.nil _) ⟨rfl, rfl⟩

end Go.Proofs.Ytdpkdicciclobaa
