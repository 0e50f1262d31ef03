import Derived.Test.YtkfmphlnpmemdaaQTys
import Derived.Test.YtkfmphlnpmemdaaQDA
import Derived.Test.YtkfmphlnpmemdaaQYGflow
import Derived.Test.YtkfmphlnpmemdaaQYGslices
import Derived.Test.YtkfmphlnpmemdaaQCoN
set_option maxRecDepth 100000
set_option maxHeartbeats 4000000
set_option linter.unusedVariables false
set_option linter.unusedSimpArgs false
namespace Go.Proofs.Ytkfmphlnpmemdaa.Sx.Y
open Go Go.Proofs.Ytkfmphlnpmemdaa.Sx
theorem most_way_I (out : (List Step) × Int) : IndepP (most_way_P out) := IndepP.of (by rintro _ _ ⟨β1, rfl, rfl⟩; exact ⟨inferInstance, inferInstance⟩)
theorem most_way_spec (n : Net) (f : (List Int)) {out : (List Step) × Int} (H : most_way_F n f = some out) : Does Try.prog 73 [.ag 4 (nth [.v (.int .i64 n.n), .v (.int .i64 n.s), .v (.int .i64 n.t), slD n.as]), slD f] [] (most_way_P out) := by
 unfold most_way_F at H
 refine Does.intro Try.func73 Z Try.ntmps73 Z fun w0 I0 tb0 => ?_
 refine Qi (Qc (Jm (ef_boxAg Z Z) (fun β1 => ?_)))
 iterate 2 refine Qa (Qh Z Z) ?_
 refine Qm (Qd (Qi (Qc (Jm (ef_alloc Z) (fun β2 => ?_)))))
 refine GoO.le (Le.reH Qy (HLe.arr (α := Step) (pre := []) (g := fun _ => El.d) ⟨⟨⟨⟨⟨⟨⟨⟨⟨⟨⟨⟨⟨⟨⟨⟨⟨⟨⟨⟨⟨⟨⟨⟨Qq, Qb _⟩, Qb _⟩, Qb _⟩, Qb _⟩, Qb _⟩, Qb _⟩, Qb _⟩, Qb _⟩, Qb _⟩, Qb _⟩, Qb _⟩, Qb _⟩, Qb _⟩, Qb _⟩, Qb _⟩, Qb _⟩, Qb _⟩, Qb _⟩, Qb _⟩, Qb _⟩, Qb _⟩, Qb _⟩, Qb _⟩, Qb _⟩)) ?_
 refine Qm (Qd (Qi (Qc (Jm (ef_alloc Z) (fun β3 => ?_)))))
 refine GoO.le (Le.reH Qy (HLe.arr (α := Int) (pre := []) (g := fun _ => (0 : Int)) ⟨⟨⟨⟨⟨⟨⟨⟨⟨⟨⟨⟨Qq, Qb _⟩, Qb _⟩, Qb _⟩, Qb _⟩, Qb _⟩, Qb _⟩, Qb _⟩, Qb _⟩, Qb _⟩, Qb _⟩, Qb _⟩, Qb _⟩)) ?_
 refine Qm (Qd (Qi (Qi (Qc (Qa (Qj Z Z) (Qm (Qd ?_)))))))
 have hb := bind_l H; clear H
 obtain ⟨f8, hl11, HK5⟩ := hb
 refine GoC.blockJ [(1, slD f), (2, .ptr β1 4 0 0), (6, .ptr β2 24 0 0)] [.one β2 145 24 (arrC (α := Step) [] (fun _ => El.d : Nat → Step)), .one β1 35 4 (st1 (nth [.v (.int .i64 n.n), .v (.int .i64 n.s), .v (.int .i64 n.t), slD n.as]))] (fun v h => v = [(7, .ptr β3 12 0 0)] ∧ h = [.one β3 144 12 (arrC (α := Int) [] f8)]) ?_ ?_
 refine GoC.loopJ [(1, _), (2, _), (6, _)] [.one β2 145 24 (arrC (α := Step) [] (fun _ => El.d : Nat → Step)), .one β1 35 4 (st1 (nth [.v (.int .i64 n.n), .v (.int .i64 n.s), .v (.int .i64 n.t), slD n.as]))] (fun mQ v h => ∃ (k9 : Nat) (f4 : (Nat → Int)), (k9 + mQ = 12 ∧ forN (most_way_B1) mQ k9 f4 = some f8) ∧ v = [(17, .v (.int .i64 ((k9 : Nat) : Int))), (7, .ptr β3 12 0 0)] ∧ h = [.one β3 144 12 (arrC (α := Int) [] f4)]) 12 ⟨_, _, ⟨by omega, hl11⟩, Z, Z⟩ (Qe Z (Qe Z (Qe Z (Qe Z (Qe Z (Jc)))))) (Qn _ _ _ _ _ Qp (Qu _) (Qn _ _ _ _ _ Qp (Qu _) (Qn _ _ _ _ _ Qp (Jh ⟨⟨⟨⟨Qq, Qb _⟩, Qb _⟩, Qb _⟩, Qb _⟩) (Jg _)))) ?_
 rintro m10 v h ⟨k9, f4, ⟨hkk9, hF6⟩, rfl, rfl⟩
 refine Qi (Qc (Qa (ps_lss Z Z Z) (Qm (Qd (Qi (Jf Z (fun (hk9 : (k9 : Int) < ((12 : Nat) : Int)) => ?_) (fun (hk9 : ¬ (k9 : Int) < ((12 : Nat) : Int)) => ?_)))))))
 obtain ⟨m10', rfl⟩ : ∃ x, m10 = x + 1 := ⟨m10 - 1, by omega⟩
 have hb := bind_l hF6; clear hF6
 obtain ⟨qrm10, H, hF6⟩ := hb
 have hnk9 : k9 < 12 := by omega
 have hIk9 : InI ((k9 : Int) + 1) := inI_cnt hk9 (by unfold InI; omega)
 refine Ji (Qd (Qi (GoC.block (Qi (Qc (Qa (Qj Z Z) (Qa (Qh Z Z) (Qm (Qd (Qc (Qa (Qj Z Z) (Qa (ps_indexAddrA Z Z ⟨Int.natCast_nonneg _, Int.ofNat_lt.2 hnk9⟩ Z) ?_))))))))))))
 refine GoO.eff1 (ef_store Z Z Z Qy (upd_arr1 (α := Int) (i := k9) (v := (-1)) Z (by simp only [show El.size Int = 1 from rfl, List.length_cons, List.length_nil, eldI]; omega) Z) Qf (blt_of (arr_lt (α := Int) (pre := []) (i := k9) (off := 0) (by simp only [show El.size Int = 1 from rfl, List.length_cons, List.length_nil, eldI]; omega) hnk9 (by decide) Z))) ?_
 refine Qm (GoK.blk (Qd (Qc (Qa (ps_add Z Z Z hIk9) (Qa (Qj Z Z) (Qm ?_))))))
 obtain rfl := Qg H
 exact GoK.againJ m10' (by omega) ⟨_, _, ⟨by omega, hF6⟩, Z, Z⟩ (Qe Z (Qe Z (Qe Z (Qe Z (Qe Z (Jc)))))) (Qn _ _ _ _ _ Qp (Qu _) (Qn _ _ _ _ _ Qp (Qu _) (Qn _ _ _ _ _ Qp (Jh ⟨⟨⟨⟨Qq, Qb _⟩, Qb _⟩, Qb _⟩, Qb _⟩) (Jg _))))
 obtain rfl : m10 = 0 := by omega
 refine GoC.exit Z ?_
 cases hF6
 exact GoK.meet ⟨Z, Z⟩ (Qe Z (Qe Z (Qe Z (Qe Z (Jc))))) (Qn _ _ _ _ _ Qp (Qu _) (Qn _ _ _ _ _ Qp (Qu _) (Qn _ _ _ _ _ Qp (Jh ⟨⟨⟨⟨Qq, Qb _⟩, Qb _⟩, Qb _⟩, Qb _⟩) (Jg _))))
 rintro v h ⟨rfl, rfl⟩
 have H := HK5; clear HK5
 refine Qd (Qi (Qc (Qa (Qr Z Z) (Qa (Jd Z At.p2 At.p2 Qf Z Z) (Qa (Qr Z Z) (Qa (Jd Z At.p2 At.p2 Qf Z Z) ?_))))))
 have c12 := ck_l H; replace H := ck_r H
 refine Qa (ps_indexAddrA Z Z c12 Z) (GoO.eff1 (ef_store Z Z Z Qy (upd_arr1 (α := Int) (i := n.s.toNat) (v := n.s) Z (by simp only [show El.size Int = 1 from rfl, List.length_cons, List.length_nil, eldI]; omega) Z) Qf (blt_of (arr_lt (α := Int) (pre := []) (i := n.s.toNat) (off := 0) (by simp only [show El.size Int = 1 from rfl, List.length_cons, List.length_nil, eldI]; omega) (idx_lt (n := 12) c12) (by decide) Z))) ?_)
 refine Qm (Qd (Qi (Qi (Qc (Qa (Qr Z Z) (Qa (Jd Z At.p2 At.p2 Qf Z Z) (Jm (ef_buildSlice (row ([n.s] : List Int)) Z (Jl _ _ _ _ _ _ _ _ ⟨Z, Z⟩ (Part.one _ Z Z) Z Z (Parts.nil _)) Z Z Z Z) (fun β13 => ?_))))))))
 refine Qa (Qh Z Z) (Qm (Qd ?_))
 have hb := bind_l H; clear H
 obtain ⟨q20, hl69, HK18⟩ := hb
 refine GoC.blockJ [(1, slD f), (2, .ptr β1 4 0 0)] [.one β1 35 4 (st1 (nth [.v (.int .i64 n.n), .v (.int .i64 n.s), .v (.int .i64 n.t), slD n.as]))] (fun v h => ∃ (f21 : (Nat → Step)) (f22 : (Nat → Int)) (l23 : (List Int)) (β16 : BK), q20 = .go (f21, f22, l23) ∧ v = [(6, .ptr β2 24 0 0), (7, .ptr β3 12 0 0)] ∧ h = [.one β2 145 24 (arrC (α := Step) [] f21), .one β3 144 12 (arrC (α := Int) [] f22), .one β16 3 1 (row l23)]) ?_ ?_
 refine GoC.loopJ [(1, _), (2, _)] [.one β1 35 4 (st1 (nth [.v (.int .i64 n.n), .v (.int .i64 n.s), .v (.int .i64 n.t), slD n.as]))] (fun mQ v h => ∃ (f14 : (Nat → Step)) (f15 : (Nat → Int)) (l17 : (List Int)) (β16 : BK), loopC (most_way_B2 n f) mQ (f14, f15, l17) = some q20 ∧ v = [(6, .ptr β2 24 0 0), (7, .ptr β3 12 0 0), (9, .own β16 1 0 l17.length)] ∧ h = [.one β2 145 24 (arrC (α := Step) [] f14), .one β3 144 12 (arrC (α := Int) [] f15), .one β16 3 1 (row l17)]) 1000000 ⟨_, _, _, β13, hl69, Z, Z⟩ (Qe Z (Qe Z (Jo Z (Jq (by first|rfl|omega|(simp only[szm]<;>first|rfl|omega))) (Qe Z (Qe Z (Jc)))))) (Qn _ _ _ _ _ Rem.p2 (Qu _) (Qn _ _ _ _ _ Jk (Qu _) (Qn _ _ _ _ _ Qp (Qu _) (Qn _ _ _ _ _ Qp (Jh ⟨⟨⟨⟨Qq, Qb _⟩, Qb _⟩, Qb _⟩, Qb _⟩) (Jg _))))) ?_
 rintro m24 v h ⟨f14, f15, l17, β16, hF19, rfl, rfl⟩
 obtain ⟨m24', rfl⟩ | rfl : (∃ x, m24 = x + 1) ∨ m24 = 0 := by cases m24 <;> simp
 case inr => cases hF19
 have hb := bind_l hF19; clear hF19
 obtain ⟨qrm24, H, hF19⟩ := hb
 refine Qi (Qi (Qc (Qa (Qj Z Z) (Qa (ps_len Z (by constructor) Z) ?_))))
 refine GoO.lenLe (n := l17.length) (x := .tmp 31) Z (by constructor) own_lenLe (fun ml25 => ?_)
 refine Qa (ps_gtr Z Z Z) (Qa (Qj Z Z) (GoO.guardD Z Z Z Z (fun h26 => ?_) (fun h26 => ?_)))
 replace H := ite_t h26 H
 refine Qa (Qr Z Z) (Je Z Z Z (Qa (Jd Z At.p3 At.p3 Qf Z Z) (Je Z Z Z ?_)))
 have c27 := ck_l H; replace H := ck_r H
 refine Qa (ps_indexAddrA Z Z c27 Z) (Je Z Z Z (Qa (ps_loadA (α := Int) (i := n.t.toNat) (off := 0) Z Js Js (by simp only [show El.size Int = 1 from rfl, List.length_cons, List.length_nil, eldI]; omega) (idx_lt (n := 12) c27) Z Z Z) ?_))
 refine Je Z Z Z (Qa (ps_lss Z Z Z) (Qa (ps_pickT Z Z Z) (Qm (Qd (Jf Z (fun h28 => ?_) (fun h28 => ?_))))))
 replace H := ite_t h28 H
 refine Ji (Qd (Qi (GoC.block (Qi (Qc (Qa (Qj Z Z) ?_))))))
 have c29 := ck_l H; replace H := ck_r H
 refine Qa (ps_indexAddr0N (i := 0) Z Z c29 Z) ?_
 refine Qa (Jd Z At.p2 At.p2 c29 Z Z) (Qa (Qh Z Z) (Qm (Qd (Qi (Qc (Qa (Qr Z Z) (Qa (Jd Z At.p3 At.p3 Qf Z Z) (Qa (ps_len Z (by constructor) Z) ?_))))))))
 refine GoO.lenLe (n := n.as.length) (x := .tmp 47) Z (by constructor) sl_lenLe (fun ml30 => ?_)
 refine Qa (Qj Z Z) (Qm (Qd ?_))
 have hb := bind_l H; clear H
 obtain ⟨⟨f38, f39, l40⟩, hl66, HK35⟩ := hb
 refine GoC.blockJ [(1, slD f), (2, .ptr β1 4 0 0)] [.one β1 35 4 (st1 (nth [.v (.int .i64 n.n), .v (.int .i64 n.s), .v (.int .i64 n.t), slD n.as]))] (fun v h => ∃ (β33 : BK), v = [(6, .ptr β2 24 0 0), (7, .ptr β3 12 0 0), (9, .own β33 1 0 l40.length)] ∧ h = [.one β2 145 24 (arrC (α := Step) [] f38), .one β3 144 12 (arrC (α := Int) [] f39), .one β33 3 1 (row l40)]) ?_ ?_
 refine GoC.loopJ [(1, _), (2, _), (10, _), (47, _), (48, _)] [.one β1 35 4 (st1 (nth [.v (.int .i64 n.n), .v (.int .i64 n.s), .v (.int .i64 n.t), slD n.as]))] (fun mQ v h => ∃ (k41 : Nat) (f31 : (Nat → Step)) (f32 : (Nat → Int)) (l34 : (List Int)) (β33 : BK), (k41 + mQ = n.as.length ∧ forN (most_way_B3 n f l17) mQ k41 (f31, f32, l34) = some (f38, f39, l40)) ∧ v = [(49, .v (.int .i64 ((k41 : Nat) : Int))), (6, .ptr β2 24 0 0), (7, .ptr β3 12 0 0), (9, .own β33 1 0 l34.length)] ∧ h = [.one β2 145 24 (arrC (α := Step) [] f31), .one β3 144 12 (arrC (α := Int) [] f32), .one β33 3 1 (row l34)]) n.as.length ⟨_, _, _, _, β16, ⟨by omega, hl66⟩, Z, Z⟩ (Qe Z (Qe Z (Qe Z (Jo Z (Jq (by first|rfl|omega|(simp only [row_len, gridC_len, rowO_len] <;>first|rfl|omega))) (Qe Z (Qe Z (Qe Z (Qe Z (Qe Z (Jc)))))))))) (Qn _ _ _ _ _ Qp (Qu _) (Qn _ _ _ _ _ Qp (Qu _) (Qn _ _ _ _ _ Qp (Qu _) (Qn _ _ _ _ _ Qp (Jh ⟨⟨⟨⟨Qq, Qb _⟩, Qb _⟩, Qb _⟩, Qb _⟩) (Jg _))))) ?_
 rintro m42 v h ⟨k41, f31, f32, l34, β33, ⟨hkk41, hF36⟩, rfl, rfl⟩
 refine Qi (Qc (Qa (ps_lss Z Z Z) (Qm (Qd (Qi (Jf Z (fun (hk41 : (k41 : Int) < ((n.as.length : Nat) : Int)) => ?_) (fun (hk41 : ¬ (k41 : Int) < ((n.as.length : Nat) : Int)) => ?_)))))))
 obtain ⟨m42', rfl⟩ : ∃ x, m42 = x + 1 := ⟨m42 - 1, by omega⟩
 have hb := bind_l hF36; clear hF36
 obtain ⟨qrm42, H, hF36⟩ := hb
 have hnk41 : k41 < n.as.length := by omega
 have hIk41 : InI ((k41 : Int) + 1) := inI_len hk41 ml30
 refine Ji (Qd (Qi (GoC.block (Qi (Qc (Qa (Qj Z Z) (Qa (Jn Z Z hnk41 Z) (Qa (ps_loadAgR Z hnk41 Z Z) (Jm (ef_alloc Z) (fun β43 => ?_))))))))))
 refine Qa (Qh Z Z) (GoO.eff1 (ef_storeAg Z Z Qy upd_whole Qf Z) (Qm (Qd ?_)))
 have hb := bind_l H; clear H
 obtain ⟨⟨f44, f45, l47⟩, H, HK48⟩ := hb
 refine GoC.seqJ [(1, slD f), (2, .ptr β1 4 0 0), (10, .v (.int .i64 (l17.getD 0 (0 : Int)))), (11, .v (.int .i64 ((k41 : Nat) : Int))), (12, .ptr β43 3 0 0), (47, slD n.as), (48, .v (.int .i64 ((n.as.length : Nat) : Int))), (49, .v (.int .i64 ((k41 : Nat) : Int)))] [.one β43 57 3 (st1 (nth [.v (.int .i64 ((n.as.getD k41 El.d).f)), .v (.int .i64 ((n.as.getD k41 El.d).t)), .v (.int .i64 ((n.as.getD k41 El.d).c))])), .one β1 35 4 (st1 (nth [.v (.int .i64 n.n), .v (.int .i64 n.s), .v (.int .i64 n.t), slD n.as]))] (fun v h => ∃ (β46 : BK), v = [(6, .ptr β2 24 0 0), (7, .ptr β3 12 0 0), (9, .own β46 1 0 l47.length)] ∧ h = [.one β2 145 24 (arrC (α := Step) [] f44), .one β3 144 12 (arrC (α := Int) [] f45), .one β46 3 1 (row l47)]) ?_ ?_
 refine Qi (GoC.drawA (.q 0 (.q 1 (.q 2 (.q 3 (.q 4 (.q 5 (.q 6 (.q 7 (.q 8 (.q 9 (.q 10 (.q 11 (.q 12 (.q 13 (.q 14 (.q 15 (.q 16 (.q 17 (.q 18 (.q 19 (.done))))))))))))))))))))) follows (by kernel_rfl) ?_)
 refine Qx Z (Qr Z Z) (Qx Z (Jd Z Qy Qy Qf Z Z) (Qx Z (Qj Z Z) (Qx Z (ps_eql Z Z Z) (Qx Z (Qj Z Z) (GoP.decideD 58 Z (fun h50 => ?_) (fun h50 => ?_))))))
 replace H := ite_t h50 H
 iterate 2 refine GoP.qT Z Z Z Z (Qj Z Z) ?_
 have c51 := ck_l H; replace H := ck_r H
 refine GoP.qT Z Z Z Z (Jn Z Z c51 Z) (GoP.qT Z Z Z Z (ps_loadR Z c51 Z Z) (GoP.qT Z Z Z Z (Qr Z Z) (GoP.qT Z Z Z Z (Jd Z Qy Qy Qf Z Z) (GoP.qT Z Z Z Z (ps_lss Z Z Z) (Qx Z (ps_pickT Z Z Z) ?_)))))
 refine Qx Z (Qj Z Z) (GoP.decideD 67 Z (fun h52 => ?_) (fun h52 => ?_))
 replace H := ite_t h52 H
 refine GoP.qT Z Z Z Z (Qr Z Z) (GoP.qT Z Z Z Z (Jd Z Qy Qy Qf Z Z) ?_)
 have c53 := ck_l H; replace H := ck_r H
 refine GoP.qT Z Z Z Z (ps_indexAddrA Z Z c53 Z) (GoP.qT Z Z Z Z (ps_loadA (α := Int) (i := ((n.as.getD k41 El.d).t).toNat) (off := 0) Z At.p2 At.p2 (by simp only [show El.size Int = 1 from rfl, List.length_cons, List.length_nil, eldI]; omega) (idx_lt (n := 12) c53) Z Z Z) ?_)
 refine GoP.qT Z Z Z Z (ps_lss Z Z Z) (Qx Z (ps_pickT Z Z Z) (GoP.done (Qd (Jf Z (fun h54 => ?_) (fun h54 => ?_)))))
 replace H := ite_t h54 H
 refine Qi (GoC.drawP (.q 0 (.q 1 (.q 2 (.q 3 (.q 4 (.q 5 (.q 6 (.q 7 (.one 8 (.q 9 (.one 10 (.done)))))))))))) [(12, _, _, _)] follows (by kernel_rfl) (Qk _ _ _ _ _ Qp (Ql _)) ?_)
 refine Qx Z (Qr Z Z) (Qx Z (Jd Z Qy Qy Qf Z Z) (Qx Z (Qr Z Z) (Qx Z (Jd Z Qy Qy Qf Z Z) ?_)))
 iterate 2 refine Qx Z (Qj Z Z) ?_
 refine Qx Z (ps_build (Jl _ _ _ _ _ _ _ _ FdP.of (Part.one _ Z Z) Z Z (Jl _ _ _ _ _ _ _ _ FdP.of (Part.one _ Z Z) Z Z (Parts.nil _))) Z) (Qx Z (ps_indexAddrA Z Z c53 Z) (GoP.one1 Z Qq (ef_store Z Z Z At.p2 (upd_arr1 (α := Int) (i := ((n.as.getD k41 El.d).t).toNat) (v := (l17.getD 0 (0 : Int))) Z (by simp only [show El.size Int = 1 from rfl, List.length_cons, List.length_nil, eldI]; omega) Z) Qf (blt_of (arr_lt (α := Int) (pre := []) (i := ((n.as.getD k41 El.d).t).toNat) (off := 0) (by simp only [show El.size Int = 1 from rfl, List.length_cons, List.length_nil, eldI]; omega) (idx_lt (n := 12) c53) (by decide) Z))) (Qk _ _ _ _ _ Rem.p2 (Qk _ _ _ _ _ Qp (Ql _))) ?_))
 refine Qx Z (ps_indexAddrA Z Z c53 Z) (GoP.one1 Z Qq (ef_storeAg Z Z Js (upd_arrN (α := Step) (i := ((n.as.getD k41 El.d).t).toNat) (v := (⟨((k41 : Nat) : Int), false⟩ : Step)) Z (by decide) (by simp only [show El.size Step = 2 from rfl, List.length_cons, List.length_nil, eldI]; omega) ⟨⟨Qq, Z⟩, Z⟩) Qf (arr_le (α := Step) (pre := []) (i := ((n.as.getD k41 El.d).t).toNat) (by simp only [show El.size Step = 2 from rfl, List.length_cons, List.length_nil, eldI]; omega) (idx_lt (n := 12) c53) Z)) (Qk _ _ _ _ _ Jk (Qk _ _ _ _ _ Qp (Ql _))) ?_)
 refine GoP.done (Qd (Qc (Qa (Qj Z Z) (Qa (Qr Z Z) (Qa (Jd Z Qy Qy Qf Z Z) (Jm (ef_buildSlice (row ([(n.as.getD k41 El.d).t] : List Int)) Z (Jl _ _ _ _ _ _ _ _ ⟨Z, Z⟩ (Part.one _ Z Z) Z Z (Parts.nil _)) Z Z Z Z) (fun β55 => ?_)))))))
 have c57 := ck_l H; replace H := ck_r H
 refine Jm (ef_append Z Z Rem.p4 (Src.own Qy (by first | omega | (simp only [szl]; omega) | (simp only [szl]; done))) (cat_row (α := Int) (by first|rfl|omega|(simp only[szl]<;>first|rfl|omega)) (by first|rfl|omega|(simp only[szl]<;>first|rfl|omega)) (fun _ _ _ _ => Z)) (by first | omega | (simp only [szl]; omega) | (simp only [szl]; done)) (app_le c57 Z) Z Z Z) (fun β56 => ?_)
 refine Qa (Qh Z Z) (Qm ?_)
 cases H
 exact GoK.meet ⟨β56, Z, Z⟩ (Qe Z (Qe Z (Jo Z (Jq (by first|rfl|omega|(simp only [row_len, gridC_len, rowO_len, List.length_append, List.length_cons, List.length_nil] <;>first|rfl|omega))) (Qe Z (Qe Z (Qe Z (Qe Z (Qe Z (Qe Z (Qe Z (Qe Z (Jc)))))))))))) (Qn _ _ _ _ _ Rem.p3 (Qu _) (Qn _ _ _ _ _ Rem.p3 (Qu _) (Qn _ _ _ _ _ Qp (Qu _) (Qn _ _ _ _ _ Jk (Jh ⟨⟨⟨Qq, Qb _⟩, Qb _⟩, Qb _⟩) (Qn _ _ _ _ _ Jk (Jh ⟨⟨⟨⟨Qq, Qb _⟩, Qb _⟩, Qb _⟩, Qb _⟩) (Jg _))))))
 replace H := ite_f h54 H
 refine Ji ?_
 cases H
 exact GoK.meet ⟨β33, Z, Z⟩ (Qe Z (Qe Z (Jo Z (Jq (by first|rfl|omega|(simp only [row_len, gridC_len, rowO_len] <;>first|rfl|omega))) (Qe Z (Qe Z (Qe Z (Qe Z (Qe Z (Qe Z (Qe Z (Qe Z (Jc)))))))))))) (Qn _ _ _ _ _ Jk (Qu _) (Qn _ _ _ _ _ Jk (Qu _) (Qn _ _ _ _ _ Jk (Qu _) (Qn _ _ _ _ _ Qp (Jh ⟨⟨⟨Qq, Qb _⟩, Qb _⟩, Qb _⟩) (Qn _ _ _ _ _ Qp (Jh ⟨⟨⟨⟨Qq, Qb _⟩, Qb _⟩, Qb _⟩, Qb _⟩) (Jg _))))))
 replace H := ite_f h52 H
 iterate 5 refine Jp Z Z Z Z Z ?_
 refine Qx Z (ps_pickF Z Z Z) (GoP.done (Qd (GoC.condF Z (Ji ?_))))
 cases H
 exact GoK.meet ⟨β33, Z, Z⟩ (Qe Z (Qe Z (Jo Z (Jq (by first|rfl|omega|(simp only [row_len, gridC_len, rowO_len] <;>first|rfl|omega))) (Qe Z (Qe Z (Qe Z (Qe Z (Qe Z (Qe Z (Qe Z (Qe Z (Jc)))))))))))) (Qn _ _ _ _ _ Jk (Qu _) (Qn _ _ _ _ _ Jk (Qu _) (Qn _ _ _ _ _ Jk (Qu _) (Qn _ _ _ _ _ Qp (Jh ⟨⟨⟨Qq, Qb _⟩, Qb _⟩, Qb _⟩) (Qn _ _ _ _ _ Qp (Jh ⟨⟨⟨⟨Qq, Qb _⟩, Qb _⟩, Qb _⟩, Qb _⟩) (Jg _))))))
 replace H := ite_f h50 H
 iterate 7 refine Jp Z Z Z Z Z ?_
 refine Qx Z (ps_pickF Z Z Z) (Qx Z (Qj Z Z) ?_)
 iterate 5 refine Jp Z Z Z Z Z ?_
 refine Qx Z (ps_pickF Z Z Z) (GoP.done (Qd (GoC.condF Z (Ji ?_))))
 cases H
 exact GoK.meet ⟨β33, Z, Z⟩ (Qe Z (Qe Z (Jo Z (Jq (by first|rfl|omega|(simp only [row_len, gridC_len, rowO_len] <;>first|rfl|omega))) (Qe Z (Qe Z (Qe Z (Qe Z (Qe Z (Qe Z (Qe Z (Qe Z (Jc)))))))))))) (Qn _ _ _ _ _ Jk (Qu _) (Qn _ _ _ _ _ Jk (Qu _) (Qn _ _ _ _ _ Jk (Qu _) (Qn _ _ _ _ _ Qp (Jh ⟨⟨⟨Qq, Qb _⟩, Qb _⟩, Qb _⟩) (Qn _ _ _ _ _ Qp (Jh ⟨⟨⟨⟨Qq, Qb _⟩, Qb _⟩, Qb _⟩, Qb _⟩) (Jg _))))))
 rintro v h ⟨β46, rfl, rfl⟩
 have H := HK48; clear HK48
 refine Qi (Qc (Qa (Qr Z Z) (Qa (Jd Z At.p3 At.p3 Qf Z Z) (Qa (Qj Z Z) (Qa (ps_eql Z Z Z) (Qa (Qj Z Z) ?_))))))
 refine GoO.guardD Z Z Z Z (fun h58 => ?_) (fun h58 => ?_)
 replace H := ite_t h58 H
 refine Qa (Qj Z Z) (Je Z Z Z (Qa (Qj Z Z) (Je Z Z Z ?_)))
 have c59 := ck_l H; replace H := ck_r H
 refine Qa (Jn Z Z c59 Z) (Je Z Z Z (Qa (ps_loadR Z c59 Z Z) (Je Z Z Z (Qa (ps_gtr Z Z Z) (Qa (ps_pickT Z Z Z) ?_)))))
 refine Qa (Qj Z Z) (GoO.guardD Z Z Z Z (fun h60 => ?_) (fun h60 => ?_))
 replace H := ite_t h60 H
 refine Qa (Qr Z Z) (Je Z Z Z (Qa (Jd Z At.p3 At.p3 Qf Z Z) (Je Z Z Z ?_)))
 have c61 := ck_l H; replace H := ck_r H
 refine Qa (ps_indexAddrA Z Z c61 Z) (Je Z Z Z (Qa (ps_loadA (α := Int) (i := ((n.as.getD k41 El.d).f).toNat) (off := 0) Z Js Js (by simp only [show El.size Int = 1 from rfl, List.length_cons, List.length_nil, eldI]; omega) (idx_lt (n := 12) c61) Z Z Z) ?_))
 refine Je Z Z Z (Qa (ps_lss Z Z Z) (Qa (ps_pickT Z Z Z) (Qm (Qd (Jf Z (fun h62 => ?_) (fun h62 => ?_))))))
 replace H := ite_t h62 H
 refine Qi (GoC.drawP (.q 0 (.q 1 (.q 2 (.q 3 (.q 4 (.q 5 (.q 6 (.q 7 (.one 8 (.q 9 (.one 10 (.done)))))))))))) [(12, _, _, _)] follows (by kernel_rfl) (Qk _ _ _ _ _ Rem.p3 (Ql _)) ?_)
 refine Qx Z (Qr Z Z) (Qx Z (Jd Z At.p3 Qy Qf Z Z) (Qx Z (Qr Z Z) (Qx Z (Jd Z At.p3 Qy Qf Z Z) ?_)))
 iterate 2 refine Qx Z (Qj Z Z) ?_
 refine Qx Z (ps_build (Jl _ _ _ _ _ _ _ _ FdP.of (Part.one _ Z Z) Z Z (Jl _ _ _ _ _ _ _ _ FdP.of (Part.one _ Z Z) Z Z (Parts.nil _))) Z) (Qx Z (ps_indexAddrA Z Z c61 Z) (GoP.one1 Z Qq (ef_store Z Z Z Js (upd_arr1 (α := Int) (i := ((n.as.getD k41 El.d).f).toNat) (v := (l17.getD 0 (0 : Int))) Z (by simp only [show El.size Int = 1 from rfl, List.length_cons, List.length_nil, eldI]; omega) Z) Qf (blt_of (arr_lt (α := Int) (pre := []) (i := ((n.as.getD k41 El.d).f).toNat) (off := 0) (by simp only [show El.size Int = 1 from rfl, List.length_cons, List.length_nil, eldI]; omega) (idx_lt (n := 12) c61) (by decide) Z))) (Qk _ _ _ _ _ Jk (Qk _ _ _ _ _ Rem.p2 (Ql _))) ?_))
 refine Qx Z (ps_indexAddrA Z Z c61 Z) (GoP.one1 Z Qq (ef_storeAg Z Z Qy (upd_arrN (α := Step) (i := ((n.as.getD k41 El.d).f).toNat) (v := (⟨((k41 : Nat) : Int), true⟩ : Step)) Z (by decide) (by simp only [show El.size Step = 2 from rfl, List.length_cons, List.length_nil, eldI]; omega) ⟨⟨Qq, Z⟩, Z⟩) Qf (arr_le (α := Step) (pre := []) (i := ((n.as.getD k41 El.d).f).toNat) (by simp only [show El.size Step = 2 from rfl, List.length_cons, List.length_nil, eldI]; omega) (idx_lt (n := 12) c61) Z)) (Qk _ _ _ _ _ Qp (Qk _ _ _ _ _ Rem.p2 (Ql _))) ?_)
 refine GoP.done (Qd (Qc (Qa (Qj Z Z) (Qa (Qr Z Z) (Qa (Jd Z At.p3 At.p3 Qf Z Z) (Jm (ef_buildSlice (row ([(n.as.getD k41 El.d).f] : List Int)) Z (Jl _ _ _ _ _ _ _ _ ⟨Z, Z⟩ (Part.one _ Z Z) Z Z (Parts.nil _)) Z Z Z Z) (fun β63 => ?_)))))))
 have c65 := ck_l H; replace H := ck_r H
 refine Jm (ef_append Z Z Rem.p3 (Src.own Qy (by first | omega | (simp only [szl]; omega) | (simp only [szl]; done))) (cat_row (α := Int) (by first|rfl|omega|(simp only[szl]<;>first|rfl|omega)) (by first|rfl|omega|(simp only[szl]<;>first|rfl|omega)) (fun _ _ _ _ => Z)) (by first | omega | (simp only [szl]; omega) | (simp only [szl]; done)) (app_le c65 Z) Z Z Z) (fun β64 => ?_)
 refine Qa (Qh Z Z) (Qm (GoK.blk (Qd (Qc (Qa (ps_add Z Z Z hIk41) (Qa (Qj Z Z) (Qm ?_)))))))
 obtain rfl := Qg H
 exact GoK.againJ m42' (by omega) ⟨_, _, _, _, β64, ⟨by omega, hF36⟩, Z, Z⟩ (Qe Z (Qe Z (Qe Z (Jo Z (Jq (by first|rfl|omega|(simp only [row_len, gridC_len, rowO_len, List.length_append, List.length_cons, List.length_nil] <;>first|rfl|omega))) (Qe Z (Qe Z (Qe Z (Qe Z (Qe Z (Jc)))))))))) (Qn _ _ _ _ _ Rem.p2 (Qu _) (Qn _ _ _ _ _ Rem.p2 (Qu _) (Qn _ _ _ _ _ Qp (Qu _) (Qn _ _ _ _ _ Rem.p2 (Jh ⟨⟨⟨⟨Qq, Qb _⟩, Qb _⟩, Qb _⟩, Qb _⟩) (Jg _)))))
 replace H := ite_f h62 H
 refine Ji (GoK.blk (Qd (Qc (Qa (ps_add Z Z Z hIk41) (Qa (Qj Z Z) (Qm ?_))))))
 obtain rfl := Qg H
 exact GoK.againJ m42' (by omega) ⟨_, _, _, _, β46, ⟨by omega, hF36⟩, Z, Z⟩ (Qe Z (Qe Z (Qe Z (Jo Z (Jq (by first|rfl|omega|(simp only [row_len, gridC_len, rowO_len] <;>first|rfl|omega))) (Qe Z (Qe Z (Qe Z (Qe Z (Qe Z (Jc)))))))))) (Qn _ _ _ _ _ Qp (Qu _) (Qn _ _ _ _ _ Qp (Qu _) (Qn _ _ _ _ _ Qp (Qu _) (Qn _ _ _ _ _ Jk (Jh ⟨⟨⟨⟨Qq, Qb _⟩, Qb _⟩, Qb _⟩, Qb _⟩) (Jg _)))))
 replace H := ite_f h60 H
 iterate 4 refine Qv Z Z Z Z ?_
 refine Qa (ps_pickF Z Z Z) (Qm (Qd (GoC.condF Z (Ji (GoK.blk (Qd (Qc (Qa (ps_add Z Z Z hIk41) (Qa (Qj Z Z) ?_)))))))))
 refine Qm ?_
 obtain rfl := Qg H
 exact GoK.againJ m42' (by omega) ⟨_, _, _, _, β46, ⟨by omega, hF36⟩, Z, Z⟩ (Qe Z (Qe Z (Qe Z (Jo Z (Jq (by first|rfl|omega|(simp only [row_len, gridC_len, rowO_len] <;>first|rfl|omega))) (Qe Z (Qe Z (Qe Z (Qe Z (Qe Z (Jc)))))))))) (Qn _ _ _ _ _ Qp (Qu _) (Qn _ _ _ _ _ Qp (Qu _) (Qn _ _ _ _ _ Qp (Qu _) (Qn _ _ _ _ _ Jk (Jh ⟨⟨⟨⟨Qq, Qb _⟩, Qb _⟩, Qb _⟩, Qb _⟩) (Jg _)))))
 replace H := ite_f h58 H
 iterate 4 refine Qv Z Z Z Z ?_
 refine Qa (ps_pickF Z Z Z) (Qa (Qj Z Z) ?_)
 iterate 5 refine Qv Z Z Z Z ?_
 refine Qa (ps_pickF Z Z Z) (Qm (Qd (GoC.condF Z (Ji (GoK.blk (Qd (Qc (Qa (ps_add Z Z Z hIk41) (Qa (Qj Z Z) ?_)))))))))
 refine Qm ?_
 obtain rfl := Qg H
 exact GoK.againJ m42' (by omega) ⟨_, _, _, _, β46, ⟨by omega, hF36⟩, Z, Z⟩ (Qe Z (Qe Z (Qe Z (Jo Z (Jq (by first|rfl|omega|(simp only [row_len, gridC_len, rowO_len] <;>first|rfl|omega))) (Qe Z (Qe Z (Qe Z (Qe Z (Qe Z (Jc)))))))))) (Qn _ _ _ _ _ Qp (Qu _) (Qn _ _ _ _ _ Qp (Qu _) (Qn _ _ _ _ _ Qp (Qu _) (Qn _ _ _ _ _ Jk (Jh ⟨⟨⟨⟨Qq, Qb _⟩, Qb _⟩, Qb _⟩, Qb _⟩) (Jg _)))))
 obtain rfl : m42 = 0 := by omega
 refine GoC.exit Z ?_
 cases hF36
 exact GoK.meet ⟨β33, Z, Z⟩ (Qe Z (Qe Z (Jo Z (Jq (by first|rfl|omega|(simp only [row_len, gridC_len, rowO_len] <;>first|rfl|omega))) (Qe Z (Qe Z (Jc)))))) (Qn _ _ _ _ _ Qp (Qu _) (Qn _ _ _ _ _ Qp (Qu _) (Qn _ _ _ _ _ Qp (Qu _) (Qn _ _ _ _ _ Qp (Jh ⟨⟨⟨⟨Qq, Qb _⟩, Qb _⟩, Qb _⟩, Qb _⟩) (Jg _)))))
 rintro v h ⟨β33, rfl, rfl⟩
 have H := HK35; clear HK35
 refine GoK.blk (Qd (Qc (Qa (Qj Z Z) ?_)))
 have c67 := ck_l H; replace H := ck_r H
 refine Qa (ps_slice Z (Bd.nat _ _ 1 _ Z) (Bd.no _) c67 (Nat.le_refl _) Z) (GoO.le (Le.shift At.p2 (by have := c67; first | omega | (simp only [szl]; omega) | (simp only [szl, eldI]; omega))) ?_)
 refine GoO.le (Le.reH At.p2 (HLe.part (xs := l40) (r := 1 + 0) (len := l40.length - 1) (by have := c67; first | omega | (simp only [szl]; omega)))) ?_
 generalize (⟨β33.b, β33.o + (1 + 0) * 1, β33.s - (1 + 0)⟩ : BK) = β68
 refine Qa (Qh Z Z) (Qm ?_)
 obtain rfl := Qg H
 exact GoK.againJ m24' (by omega) ⟨_, _, _, β68, hF19, Z, Z⟩ (Qe Z (Qe Z (Jo Z (Jq (by first|rfl|omega|(simp only [row_len, gridC_len, rowO_len, subl_length] <;>first|rfl|omega))) (Qe Z (Qe Z (Jc)))))) (Qn _ _ _ _ _ Qp (Qu _) (Qn _ _ _ _ _ Qp (Qu _) (Qn _ _ _ _ _ Qp (Qu _) (Qn _ _ _ _ _ Qp (Jh ⟨⟨⟨⟨Qq, Qb _⟩, Qb _⟩, Qb _⟩, Qb _⟩) (Jg _)))))
 replace H := ite_f h28 H
 refine GoC.exit Z ?_
 obtain rfl := Qg H
 obtain rfl := Qg hF19
 exact GoK.meet ⟨_, _, _, β16, Z, Z, Z⟩ (Qe Z (Qe Z (Qe Z (Qe Z (Jc))))) (Qn _ _ _ _ _ Qp (Qu _) (Qn _ _ _ _ _ Qp (Qu _) (Qn _ _ _ _ _ Qp (Qu _) (Qn _ _ _ _ _ Qp (Jh ⟨⟨⟨⟨Qq, Qb _⟩, Qb _⟩, Qb _⟩, Qb _⟩) (Jg _)))))
 replace H := ite_f h26 H
 iterate 4 refine Qv Z Z Z Z ?_
 refine Qa (ps_pickF Z Z Z) (Qm (Qd (GoC.condF Z (GoC.exit Z ?_))))
 obtain rfl := Qg H
 obtain rfl := Qg hF19
 exact GoK.meet ⟨_, _, _, β16, Z, Z, Z⟩ (Qe Z (Qe Z (Qe Z (Qe Z (Jc))))) (Qn _ _ _ _ _ Qp (Qu _) (Qn _ _ _ _ _ Qp (Qu _) (Qn _ _ _ _ _ Qp (Qu _) (Qn _ _ _ _ _ Qp (Jh ⟨⟨⟨⟨Qq, Qb _⟩, Qb _⟩, Qb _⟩, Qb _⟩) (Jg _)))))
 rintro v h ⟨f21, f22, l23, β16, rfl, rfl, rfl⟩
 have H := HK18; clear HK18
 refine Qd (Qi (Qi (Qc (Qa (Qr Z Z) (Qa (Jd Z At.p3 At.p3 Qf Z Z) ?_)))))
 have c70 := ck_l H; replace H := ck_r H
 refine Qa (ps_indexAddrA Z Z c70 Z) (Qa (ps_loadA (α := Int) (i := n.t.toNat) (off := 0) Z Js Js (by simp only [show El.size Int = 1 from rfl, List.length_cons, List.length_nil, eldI]; omega) (idx_lt (n := 12) c70) Z Z Z) ?_)
 refine Qa (ps_lss Z Z Z) (Qm (Qd (Jf Z (fun h71 => ?_) (fun h71 => ?_))))
 replace H := ite_t h71 H
 refine Qi (Qc ?_)
 iterate 2 refine Qa (Qh Z Z) ?_
 refine Qm (Qd ?_)
 obtain rfl := Qg H
 refine GoC.le (le_row0 138 2 (row ([] : List Step)) Z) ?_
 exact Ja (ds := [.own ⟨0, 0, 0⟩ 2 0 0, .v (.int .i64 0)]) Try.results73 (Qs (ResD.le (Qw Z) (by exact DLe.nilOwn)) (Qs (Qw Z) (Qz))) (Qk _ _ _ _ _ Qp (Ql _)) ⟨⟨0, 0, 0⟩, Z, Z⟩
 replace H := ite_f h71 H
 refine Ji (Qd (Qi (Qc (Qa (Qh Z Z) (Qm (Qd (Qi (Qc (Qa (Qh Z Z) (Qm (Qd (Qi (Qi (Qc (Qa (Qr Z Z) ?_)))))))))))))))
 refine Qa (Jd Z At.p3 At.p3 Qf Z Z) (Qa (Qh Z Z) (Qm (Qd ?_)))
 have hb := bind_l H; clear H
 obtain ⟨q78, hl94, HK76⟩ := hb
 refine GoC.blockJ [] [.one β2 145 24 (arrC (α := Step) [] f21), .one β3 144 12 (arrC (α := Int) [] f22), .one β16 3 1 (row l23), .one β1 35 4 (st1 (nth [.v (.int .i64 n.n), .v (.int .i64 n.s), .v (.int .i64 n.t), slD n.as]))] (fun v h => ∃ (l79 : (List Step)) (x80 : Int) (x81 : Int) (β72 : BK), q78 = .go (l79, x80, x81) ∧ v = [(13, .own β72 2 0 l79.length), (14, .v (.int .i64 x80))] ∧ h = [.one β72 138 2 (row l79)]) ?_ ?_
 refine GoC.loopJ [(1, _), (2, _), (6, _), (7, _)] [.one β2 145 24 (arrC (α := Step) [] f21), .one β3 144 12 (arrC (α := Int) [] f22), .one β16 3 1 (row l23), .one β1 35 4 (st1 (nth [.v (.int .i64 n.n), .v (.int .i64 n.s), .v (.int .i64 n.t), slD n.as]))] (fun mQ v h => ∃ (l73 : (List Step)) (x74 : Int) (x75 : Int) (β72 : BK), loopC (most_way_B4 n f f21 f22) mQ (l73, x74, x75) = some q78 ∧ v = [(13, .own β72 2 0 l73.length), (14, .v (.int .i64 x74)), (15, .v (.int .i64 x75))] ∧ h = [.one β72 138 2 (row l73)]) 1000000 ⟨_, _, _, ⟨0, 0, 0⟩, hl94, Z, Z⟩ (Jo Z (DLe.nilOwn) (Qe Z (Qe Z (Qe Z (Qe Z (Qe Z (Qe Z (Jc)))))))) (TkD.no _ _ _ _ _ Z (Qn _ _ _ _ _ Qp (Qu _) (Qn _ _ _ _ _ Qp (Qu _) (Qn _ _ _ _ _ Qp (Qu _) (Qn _ _ _ _ _ Qp (Jh ⟨⟨⟨⟨Qq, Qb _⟩, Qb _⟩, Qb _⟩, Qb _⟩) (Jg _)))))) ?_
 rintro m82 v h ⟨l73, x74, x75, β72, hF77, rfl, rfl⟩
 obtain ⟨m82', rfl⟩ | rfl : (∃ x, m82 = x + 1) ∨ m82 = 0 := by cases m82 <;> simp
 case inr => cases hF77
 have hb := bind_l hF77; clear hF77
 obtain ⟨qrm82, H, hF77⟩ := hb
 refine Qi (Qi (Qc (Qa (Qj Z Z) (Qa (Qr Z Z) (Qa (Jd Z At.p4 At.p4 Qf Z Z) (Qa (ps_neq Z Z Z) (Qm (Qd ?_))))))))
 refine Jf Z (fun h83 => ?_) (fun h83 => ?_)
 replace H := ite_t h83 H
 refine Ji (Qd (Qi (GoC.block (Qi (Qc (Qa (Qj Z Z) ?_))))))
 have c84 := ck_l H; replace H := ck_r H
 refine Qa (ps_indexAddrA Z Z c84 Z) (Qa (ps_loadAgA (α := Step) (i := x75.toNat) (off := 0) Z Js Js (by simp only [show El.size Step = 2 from rfl, List.length_cons, List.length_nil, eldI]; omega) (idx_lt (n := 12) c84) Z Z Z) ?_)
 refine Jm (ef_alloc Z) (fun β85 => ?_)
 refine GoO.eff1 (ef_storeAg Z Z Qy upd_whole Qf Z) (Qm (Qd (Qi (Qc (Qa (Qj Z Z) (Qa (Jr Z Qy Qy Qf Z Z) (Jm (ef_buildSlice (row ([(f21 x75.toNat)] : List Step)) Z (Jl _ _ _ _ _ _ _ _ ⟨Z, Z⟩ (Part.ag _ _ Z) Z Z (Parts.nil _)) Z Z Z Z) (fun β86 => ?_))))))))
 have c88 := ck_l H; replace H := ck_r H
 refine Jm (ef_append Z Z Rem.p2 (Src.own Qy (by first | omega | (simp only [szl]; omega) | (simp only [szl]; done))) (cat_row (α := Step) (by first|rfl|omega|(simp only[szl]<;>first|rfl|omega)) (by first|rfl|omega|(simp only[szl]<;>first|rfl|omega)) (fun _ _ _ _ => Z)) (by first | omega | (simp only [szl]; omega) | (simp only [szl]; done)) (app_le c88 Z) Z Z Z) (fun β87 => ?_)
 refine Qa (Qh Z Z) (Qm (Qd (Qi (Qc (Qa (Qr Z Z) (Qa (Jd Z At.p2 At.p2 Qf Z Z) (Qm (Qd (GoC.cond Z (fun h89 => ?_) (fun h89 => ?_))))))))))
 replace H := itb_t h89 H
 refine Qc ?_
 iterate 2 refine Qa (Qj Z Z) ?_
 refine Qa (Qr Z Z) (Qa (Jd Z At.p2 At.p2 Qf Z Z) ?_)
 have c90 := ck_l H; replace H := ck_r H
 refine Qa (ps_indexAddrR Z Z c90 Z) (Qa (ps_loadR Z (idx_lt c90) Z Z) (Qa (ps_min Z Z Z) (Qa (Qh Z Z) (Qm (GoK.blk (Qd (Qc (Qa (Qj Z Z) ?_))))))))
 refine Qa (ps_indexAddrA Z Z c84 Z) (Qa (ps_loadA (α := Int) (i := x75.toNat) (off := 0) Z At.p4 At.p4 (by simp only [show El.size Int = 1 from rfl, List.length_cons, List.length_nil, eldI]; omega) (idx_lt (n := 12) c84) Z Z Z) ?_)
 refine Qa (Qh Z Z) (Qm ?_)
 obtain rfl := Qg H
 exact GoK.againJ m82' (by omega) ⟨_, _, _, β87, hF77, Z, Z⟩ (Jo Z (Jq (by first|rfl|omega|(simp only [row_len, gridC_len, rowO_len, List.length_append, List.length_cons, List.length_nil] <;>first|rfl|omega))) (Qe Z (Qe Z (Qe Z (Qe Z (Qe Z (Qe Z (Jc)))))))) (Qn _ _ _ _ _ Qp (Qu _) (Qn _ _ _ _ _ Rem.p2 (Qu _) (Qn _ _ _ _ _ Rem.p2 (Qu _) (Qn _ _ _ _ _ Rem.p2 (Qu _) (Qn _ _ _ _ _ Rem.p2 (Jh ⟨⟨⟨⟨Qq, Qb _⟩, Qb _⟩, Qb _⟩, Qb _⟩) (Jg _))))))
 replace H := itb_f h89 H
 refine GoC.drawA (.q 0 (.q 1 (.q 2 (.q 3 (.q 4 (.q 5 (.q 6 (.q 7 (.q 8 (.q 9 (.q 10 (.q 11 (.q 12 (.q 13 (.q 14 (.q 15 (.done))))))))))))))))) follows (by kernel_rfl) ?_
 refine Qx Z (Qj Z Z) (Qx Z (Qr Z Z) (Qx Z (Jd Z At.p6 At.p6 Qf Z Z) (Qx Z (Qr Z Z) (Qx Z (Jd Z At.p2 At.p2 Qf Z Z) ?_))))
 have c91 := ck_l H; replace H := ck_r H
 refine Qx Z (ps_indexAddrR Z Z c91 Z) (Qx Z (ps_fieldAddrR Z Z) (Qx Z (ps_loadR Z (idx_lt c91) Z Z) (Qx Z (Qj Z Z) (Qx Z (Qr Z Z) (Qx Z (Jd Z At.p2 At.p2 Qf Z Z) ?_)))))
 have c92 := ck_l H; replace H := ck_r H
 refine Qx Z (ps_indexAddrR Z Z c92 Z) (Qx Z (ps_loadR Z (idx_lt c92) Z Z) ?_)
 have c93 := ck_l H; replace H := ck_r H
 refine Qx Z (ps_sub Z Z Z c93) (Qx Z (ps_min Z Z Z) (Qx Z (Qh Z Z) (GoP.done (GoK.blk (Qd (Qc (Qa (Qj Z Z) ?_)))))))
 refine Qa (ps_indexAddrA Z Z c84 Z) (Qa (ps_loadA (α := Int) (i := x75.toNat) (off := 0) Z At.p4 At.p4 (by simp only [show El.size Int = 1 from rfl, List.length_cons, List.length_nil, eldI]; omega) (idx_lt (n := 12) c84) Z Z Z) ?_)
 refine Qa (Qh Z Z) (Qm ?_)
 obtain rfl := Qg H
 exact GoK.againJ m82' (by omega) ⟨_, _, _, β87, hF77, Z, Z⟩ (Jo Z (Jq (by first|rfl|omega|(simp only [row_len, gridC_len, rowO_len, List.length_append, List.length_cons, List.length_nil] <;>first|rfl|omega))) (Qe Z (Qe Z (Qe Z (Qe Z (Qe Z (Qe Z (Jc)))))))) (Qn _ _ _ _ _ Qp (Qu _) (Qn _ _ _ _ _ Rem.p2 (Qu _) (Qn _ _ _ _ _ Rem.p2 (Qu _) (Qn _ _ _ _ _ Rem.p2 (Qu _) (Qn _ _ _ _ _ Rem.p2 (Jh ⟨⟨⟨⟨Qq, Qb _⟩, Qb _⟩, Qb _⟩, Qb _⟩) (Jg _))))))
 replace H := ite_f h83 H
 refine GoC.exit Z ?_
 obtain rfl := Qg H
 obtain rfl := Qg hF77
 exact GoK.meet ⟨_, _, _, β72, Z, Z, Z⟩ (Jo Z (Jq (by first|rfl|omega|(simp only [row_len, gridC_len, rowO_len] <;>first|rfl|omega))) (Qe Z (Jc))) (Qn _ _ _ _ _ Qp (Qu _) (Qn _ _ _ _ _ Qp (Qu _) (Qn _ _ _ _ _ Qp (Qu _) (Qn _ _ _ _ _ Qp (Qu _) (Qn _ _ _ _ _ Qp (Jh ⟨⟨⟨⟨Qq, Qb _⟩, Qb _⟩, Qb _⟩, Qb _⟩) (Jg _))))))
 rintro v h ⟨l79, x80, x81, β72, rfl, rfl, rfl⟩
 have H := HK76; clear HK76
 refine Qd (Qi (Qc ?_))
 iterate 2 refine Qa (Qj Z Z) ?_
 iterate 2 refine Qa (Qh Z Z) ?_
 refine Qm (Qd ?_)
 obtain rfl := Qg H
 exact Ja (ds := [.own β72 2 0 l79.length, .v (.int .i64 x80)]) Try.results73 (Qs (Qw Z) (Qs (Qw Z) (Qz))) (Qk _ _ _ _ _ Qp (Ql _)) ⟨β72, Z, Z⟩
theorem most_More_I (out : (List Int) × Int × Int) : IndepP (most_More_P out) := IndepP.of (by rintro _ _ ⟨β1, rfl, rfl⟩; exact ⟨inferInstance, inferInstance⟩)
theorem most_More_spec (n : Net) (f : (List Int)) {out : (List Int) × Int × Int} (H : most_More_F n f = some out) : Does Try.prog 67 [.ag 4 (nth [.v (.int .i64 n.n), .v (.int .i64 n.s), .v (.int .i64 n.t), slD n.as]), slD f] [] (most_More_P out) := by
 unfold most_More_F at H
 refine Does.intro Try.func67 Z Try.ntmps67 Z fun w0 I0 tb0 => ?_
 refine Qi (Qc (Jm (ef_boxAg Z Z) (fun β1 => ?_)))
 iterate 3 refine Qa (Qh Z Z) ?_
 refine Qm (Qd (Qi (Qc (Qa (Jr Z Qy Qy Qf Z Z) (Qa (Qj Z Z) ?_)))))
 have hb := bind_l H; clear H
 obtain ⟨⟨r2, r3⟩, e4, H⟩ := hb
 refine GoO.effC (ef_call Z (Ql _) (Ql _) (flow_Value_spec n f e4) (Qt (Lend.agA ⟨⟨⟨⟨Qq, Qo _ _⟩, Qo _ _⟩, Qo _ _⟩, Qo _ _⟩) (Qt (Qo _ _) (Jj))) Z (flow_Value_I (r2, r3))) (fun rr HH hp => ?_)
 obtain ⟨rfl, rfl⟩ := hp
 refine Qa (Qj Z Z) ?_
 iterate 2 refine Qa (Jb Z Z Z) ?_
 iterate 2 refine Qa (Qh Z Z) ?_
 refine Qm (Qd (Qi (Qi (Qc (Qa (Qj Z Z) (Qa (ps_neq Z Z Z) (Qm (Qd (Jf Z (fun h5 => ?_) (fun h5 => ?_))))))))))
 replace H := ite_t h5 H
 refine Qi (Qc (Qa (Qj Z Z) ?_))
 iterate 3 refine Qa (Qh Z Z) ?_
 refine Qm (Qd ?_)
 obtain rfl := Qg H
 refine GoC.le (le_row0 3 1 (row ([] : List Int)) Z) ?_
 exact Ja (ds := [.own ⟨0, 0, 0⟩ 1 0 0, .v (.int .i64 0), .v (.int .i64 r3)]) Try.results67 (Qs (ResD.le (Qw Z) (by exact DLe.nilOwn)) (Qs (Qw Z) (Qs (Qw Z) (Qz)))) (Qk _ _ _ _ _ Qp (Ql _)) ⟨⟨0, 0, 0⟩, Z, Z⟩
 replace H := ite_f h5 H
 refine Ji (Qd (Qi (Qc (Jm (ef_buildSlice (row (([] : List Int) : List Int)) Z (Parts.nil _) Z Z Z Z) (fun β6 => ?_)))))
 refine Qa (Qj Z Z) ?_
 have c8 := ck_l H; replace H := ck_r H
 refine Jm (ef_append Z Z Qp Src.sl (cat_row (α := Int) (by first|rfl|omega|(simp only[szl]<;>first|rfl|omega)) (by first|rfl|omega|(simp only[szl]<;>first|rfl|omega)) (fun _ _ _ _ => Z)) (by first | omega | (simp only [szl]; omega) | (simp only [szl]; done)) (app_le c8 Z) Z Z Z) (fun β7 => ?_)
 refine Qa (Qh Z Z) (Qm (Qd ?_))
 have hb := bind_l H; clear H
 obtain ⟨q13, hl38, HK11⟩ := hb
 refine GoC.blockJ [] [.one β1 35 4 (st1 (nth [.v (.int .i64 n.n), .v (.int .i64 n.s), .v (.int .i64 n.t), slD n.as]))] (fun v h => ∃ (x14 : Int) (l15 : (List Int)), q13 = .go (x14, l15) ∧ v = [] ∧ h = [.one β7 3 1 (row l15)]) ?_ ?_
 refine GoC.loopJ [(2, _)] [.one β1 35 4 (st1 (nth [.v (.int .i64 n.n), .v (.int .i64 n.s), .v (.int .i64 n.t), slD n.as]))] (fun mQ v h => ∃ (x9 : Int) (l10 : (List Int)), loopC (most_More_B1 n) mQ (x9, l10) = some q13 ∧ v = [(7, .v (.int .i64 x9)), (9, .own β7 1 0 l10.length)] ∧ h = [.one β7 3 1 (row l10)]) 1000000 ⟨_, _, hl38, Z, Z⟩ (Qe Z (Jo Z (Jq (by first|rfl|omega|(simp only [row_len, gridC_len, rowO_len, List.length_append, List.length_cons, List.length_nil, List.length_nil] <;>first|rfl|omega))) (Qe Z (Jc)))) (Qn _ _ _ _ _ Qp (Qu _) (Qn _ _ _ _ _ Qp (Jh ⟨⟨⟨⟨Qq, Qb _⟩, Qb _⟩, Qb _⟩, Qb _⟩) (Jg _))) ?_
 rintro m16 v h ⟨x9, l10, hF12, rfl, rfl⟩
 obtain ⟨m16', rfl⟩ | rfl : (∃ x, m16 = x + 1) ∨ m16 = 0 := by cases m16 <;> simp
 case inr => cases hF12
 have hb := bind_l hF12; clear hF12
 obtain ⟨qrm16, H, hF12⟩ := hb
 refine GoC.block (Qi (Qc (Qa (Jr Z Js Js Qf Z Z) (Qa (Qj Z Z) ?_))))
 have hb := bind_l H; clear H
 obtain ⟨⟨r17, r19⟩, e20, H⟩ := hb
 refine GoO.effC (ef_call Z (Ql _) (Qk _ _ _ _ _ Qp (Ql _)) (most_way_spec n l10 e20) (Qt (Lend.agA ⟨⟨⟨⟨Qq, Qo _ _⟩, Qo _ _⟩, Qo _ _⟩, Qo _ _⟩) (Qt (Lend.all' Qy (by first|rfl|omega|(simp only[szl]<;>first|rfl|omega)) Z) (Jj))) Z (most_way_I (r17, r19))) (fun rr HH hp => ?_)
 obtain ⟨β18, rfl, rfl⟩ := hp
 refine Qa (Qj Z Z) ?_
 iterate 2 refine Qa (Jb Z Z Z) ?_
 iterate 2 refine Qa (Qh Z Z) ?_
 refine Qm (Qd (Qi (Qi (Qc (Qa (Qj Z Z) (Qa (ps_eql Z Z Z) (Qm (Qd (Jf Z (fun h21 => ?_) (fun h21 => ?_))))))))))
 replace H := ite_t h21 H
 refine Qi (Qc ?_)
 iterate 2 refine Qa (Qj Z Z) ?_
 iterate 3 refine Qa (Qh Z Z) ?_
 refine Qm (Qd ?_)
 obtain rfl := Qg H
 obtain rfl := Qg hF12
 obtain rfl := Qg HK11
 exact Ja (ds := [.own β7 1 0 l10.length, .v (.int .i64 x9), .v (.int .i64 0)]) Try.results67 (Qs (Qw Z) (Qs (Qw Z) (Qs (Qw Z) (Qz)))) (Qk _ _ _ _ _ Jk (Ql _)) ⟨β7, Z, Z⟩
 replace H := ite_f h21 H
 refine Ji (Qd (Qi (Qi (Qc (Qa (Qj Z Z) (Qa (ps_len Z (by constructor) Z) ?_))))))
 refine GoO.lenLe (n := r17.length) (x := .tmp 36) Z (by constructor) own_lenLe (fun ml22 => ?_)
 refine Qa (Qj Z Z) (Qm (Qd ?_))
 have hb := bind_l H; clear H
 obtain ⟨l27, hl36, HK24⟩ := hb
 refine GoC.blockJ [(2, .ptr β1 4 0 0), (7, .v (.int .i64 x9)), (11, .v (.int .i64 r19))] [.one β18 138 2 (row r17), .one β1 35 4 (st1 (nth [.v (.int .i64 n.n), .v (.int .i64 n.s), .v (.int .i64 n.t), slD n.as]))] (fun v h => v = [(9, .own β7 1 0 l27.length)] ∧ h = [.one β7 3 1 (row l27)]) ?_ ?_
 refine GoC.loopJ [(2, _), (7, _), (11, _), (36, _), (37, _)] [.one β18 138 2 (row r17), .one β1 35 4 (st1 (nth [.v (.int .i64 n.n), .v (.int .i64 n.s), .v (.int .i64 n.t), slD n.as]))] (fun mQ v h => ∃ (k28 : Nat) (l23 : (List Int)), (k28 + mQ = r17.length ∧ forN (most_More_B2 r17 r19) mQ k28 l23 = some l27) ∧ v = [(38, .v (.int .i64 ((k28 : Nat) : Int))), (9, .own β7 1 0 l23.length)] ∧ h = [.one β7 3 1 (row l23)]) r17.length ⟨_, _, ⟨by omega, hl36⟩, Z, Z⟩ (Qe Z (Jo Z (Jq (by first|rfl|omega|(simp only [row_len, gridC_len, rowO_len] <;>first|rfl|omega))) (Qe Z (Qe Z (Qe Z (Qe Z (Qe Z (Jc)))))))) (Qn _ _ _ _ _ Jk (Qu _) (Qn _ _ _ _ _ Qp (Qu _) (Qn _ _ _ _ _ Qp (Jh ⟨⟨⟨⟨Qq, Qb _⟩, Qb _⟩, Qb _⟩, Qb _⟩) (Jg _)))) ?_
 rintro m29 v h ⟨k28, l23, ⟨hkk28, hF25⟩, rfl, rfl⟩
 refine Qi (Qc (Qa (ps_lss Z Z Z) (Qm (Qd (Qi (Jf Z (fun (hk28 : (k28 : Int) < ((r17.length : Nat) : Int)) => ?_) (fun (hk28 : ¬ (k28 : Int) < ((r17.length : Nat) : Int)) => ?_)))))))
 obtain ⟨m29', rfl⟩ : ∃ x, m29 = x + 1 := ⟨m29 - 1, by omega⟩
 have hb := bind_l hF25; clear hF25
 obtain ⟨qrm29, H, hF25⟩ := hb
 have hnk28 : k28 < r17.length := by omega
 have hIk28 : InI ((k28 : Int) + 1) := inI_len hk28 ml22
 refine Ji (Qd (Qi (GoC.block (Qi (Qc (Qa (ps_indexAddr0N Z Z hnk28 Z) (Qa (Jr Z Js Js hnk28 Z Z) (Jm (ef_alloc Z) (fun β30 => ?_)))))))))
 refine GoO.eff1 (ef_storeAg Z Z Qy upd_whole Qf Z) (Qm (Qd (Qi (Qc (Qa (Qr Z Z) (Qa (Jd Z Qy Qy Qf Z Z) (Qm (Qd (GoC.cond Z (fun h31 => ?_) (fun h31 => ?_))))))))))
 replace H := itb_t h31 H
 refine Qc (Qa (Qj Z Z) (Qa (Qr Z Z) (Qa (Jd Z Qy Qy Qf Z Z) ?_)))
 have c32 := ck_l H; replace H := ck_r H
 refine Qa (ps_indexAddr0 Z Z c32 Z) (Qa (Jd Z Js Js (idx_lt c32) Z Z) (Qa (Qj Z Z) ?_))
 have c33 := ck_l H; replace H := ck_r H
 refine Qa (ps_sub Z Z Z c33) (Qa (ps_indexAddr0 Z Z c32 Z) (GoO.eff1 (ef_store Z Z Z Js (upd_row1 (v := ((l23.getD (((r17.getD k28 El.d).arc).toNat) (0 : Int)) - r19)) Z) (idx_lt c32) Z) ?_))
 refine Qm (GoK.blk (Qd (Qc (Qa (ps_add Z Z Z hIk28) (Qa (Qj Z Z) (Qm ?_))))))
 obtain rfl := Qg H
 exact GoK.againJ m29' (by omega) ⟨_, _, ⟨by omega, hF25⟩, Z, Z⟩ (Qe Z (Jo Z (Jq (by first|rfl|omega|(simp only [row_len, gridC_len, rowO_len, List.length_set] <;>first|rfl|omega))) (Qe Z (Qe Z (Qe Z (Qe Z (Qe Z (Jc)))))))) (Qn _ _ _ _ _ Jk (Qu _) (Qn _ _ _ _ _ Jk (Qu _) (Qn _ _ _ _ _ Jk (Jh ⟨⟨⟨⟨Qq, Qb _⟩, Qb _⟩, Qb _⟩, Qb _⟩) (Jg _))))
 replace H := itb_f h31 H
 refine Qc (Qa (Qj Z Z) (Qa (Qr Z Z) (Qa (Jd Z Qy Qy Qf Z Z) ?_)))
 have c34 := ck_l H; replace H := ck_r H
 refine Qa (ps_indexAddr0 Z Z c34 Z) (Qa (Jd Z Js Js (idx_lt c34) Z Z) (Qa (Qj Z Z) ?_))
 have c35 := ck_l H; replace H := ck_r H
 refine Qa (ps_add Z Z Z c35) (Qa (ps_indexAddr0 Z Z c34 Z) (GoO.eff1 (ef_store Z Z Z Js (upd_row1 (v := ((l23.getD (((r17.getD k28 El.d).arc).toNat) (0 : Int)) + r19)) Z) (idx_lt c34) Z) ?_))
 refine Qm (GoK.blk (Qd (Qc (Qa (ps_add Z Z Z hIk28) (Qa (Qj Z Z) (Qm ?_))))))
 obtain rfl := Qg H
 exact GoK.againJ m29' (by omega) ⟨_, _, ⟨by omega, hF25⟩, Z, Z⟩ (Qe Z (Jo Z (Jq (by first|rfl|omega|(simp only [row_len, gridC_len, rowO_len, List.length_set] <;>first|rfl|omega))) (Qe Z (Qe Z (Qe Z (Qe Z (Qe Z (Jc)))))))) (Qn _ _ _ _ _ Jk (Qu _) (Qn _ _ _ _ _ Jk (Qu _) (Qn _ _ _ _ _ Jk (Jh ⟨⟨⟨⟨Qq, Qb _⟩, Qb _⟩, Qb _⟩, Qb _⟩) (Jg _))))
 obtain rfl : m29 = 0 := by omega
 refine GoC.exit Z ?_
 cases hF25
 exact GoK.meet ⟨Z, Z⟩ (Jo Z (Jq (by first|rfl|omega|(simp only [row_len, gridC_len, rowO_len] <;>first|rfl|omega))) (Qe Z (Qe Z (Qe Z (Jc))))) (Qn _ _ _ _ _ Qp (Qu _) (Qn _ _ _ _ _ Qp (Qu _) (Qn _ _ _ _ _ Qp (Jh ⟨⟨⟨⟨Qq, Qb _⟩, Qb _⟩, Qb _⟩, Qb _⟩) (Jg _))))
 rintro v h ⟨rfl, rfl⟩
 have H := HK24; clear HK24
 refine Qd (Qc ?_)
 iterate 2 refine Qa (Qj Z Z) ?_
 have c37 := ck_l H; replace H := ck_r H
 refine Qa (ps_add Z Z Z c37) (Qa (Qh Z Z) (Qm (GoK.blk ?_)))
 obtain rfl := Qg H
 exact GoK.againJ m16' (by omega) ⟨_, _, hF12, Z, Z⟩ (Qe Z (Jo Z (Jq (by first|rfl|omega|(simp only [row_len, gridC_len, rowO_len] <;>first|rfl|omega))) (Qe Z (Jc)))) (Qn _ _ _ _ _ Qp (Qu _) (Qn _ _ _ _ _ Jk (Jh ⟨⟨⟨⟨Qq, Qb _⟩, Qb _⟩, Qb _⟩, Qb _⟩) (Jg _)))
 rintro v h ⟨x14, l15, rfl, rfl, rfl⟩
 have H := HK11; clear HK11
 cases H
theorem most_Of_I (out : (List Int) × Int × Int) : IndepP (most_Of_P out) := IndepP.of (by rintro _ _ ⟨β1, rfl, rfl⟩; exact ⟨inferInstance, inferInstance⟩)
theorem most_Of_spec (n : Net) {out : (List Int) × Int × Int} (H : most_Of_F n = some out) : Does Try.prog 63 [.ag 4 (nth [.v (.int .i64 n.n), .v (.int .i64 n.s), .v (.int .i64 n.t), slD n.as])] [] (most_Of_P out) := by
 unfold most_Of_F at H
 refine Does.intro Try.func63 Z Try.ntmps63 Z fun w0 I0 tb0 => ?_
 refine Qi (Qc (Jm (ef_boxAg Z Z) (fun β1 => ?_)))
 iterate 3 refine Qa (Qh Z Z) ?_
 refine Qm (Qd (Qi (Qi (Qc (Qa (Jr Z Qy Qy Qf Z Z) ?_)))))
 have hb := bind_l H; clear H
 obtain ⟨r2, e3, H⟩ := hb
 refine GoO.effC (ef_call Z (Ql _) (Ql _) (graph_CheckNet_spec n e3) (Qt (Lend.agA ⟨⟨⟨⟨Qq, Qo _ _⟩, Qo _ _⟩, Qo _ _⟩, Qo _ _⟩) (Jj)) Z (graph_CheckNet_I (r2))) (fun rr HH hp => ?_)
 obtain ⟨rfl, rfl⟩ := hp
 refine Qa (Qh Z Z) (Qm (Qd (Qi (Qc (Qa (Qj Z Z) (Qa (ps_neq Z Z Z) (Qm (Qd (Jf Z (fun h4 => ?_) (fun h4 => ?_))))))))))
 replace H := ite_t h4 H
 refine Qi (Qc (Qa (Qj Z Z) ?_))
 iterate 3 refine Qa (Qh Z Z) ?_
 refine Qm (Qd ?_)
 obtain rfl := Qg H
 refine GoC.le (le_row0 3 1 (row ([] : List Int)) Z) ?_
 exact Ja (ds := [.own ⟨0, 0, 0⟩ 1 0 0, .v (.int .i64 0), .v (.int .i64 r2)]) Try.results63 (Qs (ResD.le (Qw Z) (by exact DLe.nilOwn)) (Qs (Qw Z) (Qs (Qw Z) (Qz)))) (Qk _ _ _ _ _ Qp (Ql _)) ⟨⟨0, 0, 0⟩, Z, Z⟩
 replace H := ite_f h4 H
 refine Ji (Qd (Qi (GoC.drawA (.q 0 (.q 1 (.q 2 (.q 3 (.one 4 (.one 5 (.q 6 (.q 7 (.q 8 (.q 9 (.q 10 (.q 11 (.done))))))))))))) follows (by kernel_rfl) ?_)))
 refine Qx Z (Jr Z Qy Qy Qf Z Z) (Qx Z (Qr Z Z) (Qx Z (Jd Z Qy Qy Qf Z Z) (Qx Z (ps_len Z (by constructor) Z) ?_)))
 have c6 := ck_l H; replace H := ck_r H
 refine GoP.oneB Z Qq (ef_makeZ Z Z c6 Z Z Z) (Qk _ _ _ _ _ Qp (Ql _)) (fun β5 => ?_)
 refine GoP.leD (Le.reH Qy (HLe.zeros (α := Int) ⟨Qq, Qb _⟩)) ?_
 have hb := bind_l H; clear H
 obtain ⟨⟨r7, r9, r10⟩, e11, H⟩ := hb
 refine GoP.oneC Z Qq (ef_call Z (Ql _) (Qk _ _ _ _ _ Qp (Ql _)) (most_More_spec n (List.replicate (((n.as.length : Nat) : Int).toNat) (0 : Int)) e11) (Qt (Lend.agA ⟨⟨⟨⟨Qq, Qo _ _⟩, Qo _ _⟩, Qo _ _⟩, Qo _ _⟩) (Qt (Lend.all' Qy (by first|rfl|omega|(simp only[szl]<;>first|rfl|omega)) Z) (Jj))) Z (most_More_I (r7, r9, r10))) (Qk _ _ _ _ _ Jk (Ql _)) (fun rr HH hp => ?_)
 obtain ⟨β8, rfl, rfl⟩ := hp
 iterate 3 refine Qx Z (Jb Z Z Z) ?_
 iterate 3 refine Qx Z (Qh Z Z) ?_
 refine GoP.done (Qd ?_)
 obtain rfl := Qg H
 exact Ja (ds := [.own β8 1 0 r7.length, .v (.int .i64 r9), .v (.int .i64 r10)]) Try.results63 (Qs (Qw Z) (Qs (Qw Z) (Qs (Qw Z) (Qz)))) (Qk _ _ _ _ _ Qp (Ql _)) ⟨β8, Z, Z⟩
theorem cut_spread_I (out : Int) : IndepP (cut_spread_P out) := IndepP.of (by rintro _ _ ⟨rfl, rfl⟩; exact ⟨inferInstance, inferInstance⟩)
theorem cut_spread_spec (n : Net) (f : (List Int)) (at_ : Int) (turned : Bool) {out : Int} (H : cut_spread_F n f at_ turned = some out) : Does Try.prog 64 [.ag 4 (nth [.v (.int .i64 n.n), .v (.int .i64 n.s), .v (.int .i64 n.t), slD n.as]), slD f, .v (.int .i64 at_), .v (.bool turned)] [] (cut_spread_P out) := by
 unfold cut_spread_F at H
 refine Does.intro Try.func64 Z Try.ntmps64 Z fun w0 I0 tb0 => ?_
 refine Qi (Qc (Jm (ef_boxAg Z Z) (fun β1 => ?_)))
 refine Qa (Qh Z Z) (Qm (Qd (Qi (Qc (Qa (Qj Z Z) ?_)))))
 have c2 := ck_l H; replace H := ck_r H
 refine Qa (ps_shl Z Z Z c2) (Qa (Qh Z Z) (Qm (Qd (Qi (Qi (Qc (Qa (Qr Z Z) (Qa (Jd Z Qy Qy Qf Z Z) (Qa (Qj Z Z) ?_)))))))))
 refine Qm (Qd ?_)
 have c3 := ck_l H; replace H := ck_r H
 have hb := bind_l H; clear H
 obtain ⟨x8, hl39, HK5⟩ := hb
 refine GoC.blockJ [] [.one β1 35 4 (st1 (nth [.v (.int .i64 n.n), .v (.int .i64 n.s), .v (.int .i64 n.t), slD n.as]))] (fun v h => v = [(9, .v (.int .u16 x8))] ∧ h = []) ?_ ?_
 refine GoC.loopJ [(1, _), (3, _), (4, _), (17, _)] [.one β1 35 4 (st1 (nth [.v (.int .i64 n.n), .v (.int .i64 n.s), .v (.int .i64 n.t), slD n.as]))] (fun mQ v h => ∃ (k9 : Nat) (x4 : Int), (k9 + mQ = n.n.toNat ∧ forN (cut_spread_B1 n f turned) mQ k9 x4 = some x8) ∧ v = [(18, .v (.int .i64 ((k9 : Nat) : Int))), (9, .v (.int .u16 x4))] ∧ h = []) n.n.toNat ⟨_, _, ⟨by omega, hl39⟩, Z, Z⟩ (Qe Z (Qe Z (Qe Z (Qe Z (Qe Z (Qe Z (Jc))))))) (Qn _ _ _ _ _ Qp (Jh ⟨⟨⟨⟨Qq, Qb _⟩, Qb _⟩, Qb _⟩, Qb _⟩) (Jg _)) ?_
 rintro m10 v h ⟨k9, x4, ⟨hkk9, hF6⟩, rfl, rfl⟩
 refine Qi (Qc (Qa (ps_lss Z Z Z) (Qm (Qd (Qi (Jf Z (fun (hk9 : (k9 : Int) < n.n) => ?_) (fun (hk9 : ¬ (k9 : Int) < n.n) => ?_)))))))
 obtain ⟨m10', rfl⟩ : ∃ x, m10 = x + 1 := ⟨m10 - 1, by omega⟩
 have hb := bind_l hF6; clear hF6
 obtain ⟨qrm10, H, hF6⟩ := hb
 have hnk9 : k9 < n.n.toNat := by omega
 have hIk9 : InI ((k9 : Int) + 1) := inI_cnt hk9 c3
 refine Ji (Qd (Qi (GoC.block (Qi (Qc (Qa (Qr Z Z) (Qa (Jd Z Qy Qy Qf Z Z) (Qa (ps_len Z (by constructor) Z) ?_))))))))
 refine GoO.lenLe (n := n.as.length) (x := .tmp 21) Z (by constructor) sl_lenLe (fun ml11 => ?_)
 refine Qa (Qj Z Z) (Qm (Qd ?_))
 have hb := bind_l H; clear H
 obtain ⟨x16, hl38, HK13⟩ := hb
 refine GoC.blockJ [(1, slD f), (3, .v (.bool turned)), (4, .ptr β1 4 0 0), (17, .v (.int .i64 n.n)), (18, .v (.int .i64 ((k9 : Nat) : Int)))] [.one β1 35 4 (st1 (nth [.v (.int .i64 n.n), .v (.int .i64 n.s), .v (.int .i64 n.t), slD n.as]))] (fun v h => v = [(9, .v (.int .u16 x16))] ∧ h = []) ?_ ?_
 refine GoC.loopJ [(1, _), (3, _), (4, _), (17, _), (18, _), (21, _), (22, _)] [.one β1 35 4 (st1 (nth [.v (.int .i64 n.n), .v (.int .i64 n.s), .v (.int .i64 n.t), slD n.as]))] (fun mQ v h => ∃ (k17 : Nat) (x12 : Int), (k17 + mQ = n.as.length ∧ forN (cut_spread_B2 n f turned) mQ k17 x12 = some x16) ∧ v = [(23, .v (.int .i64 ((k17 : Nat) : Int))), (9, .v (.int .u16 x12))] ∧ h = []) n.as.length ⟨_, _, ⟨by omega, hl38⟩, Z, Z⟩ (Qe Z (Qe Z (Qe Z (Qe Z (Qe Z (Qe Z (Qe Z (Qe Z (Qe Z (Jc)))))))))) (Qn _ _ _ _ _ Qp (Jh ⟨⟨⟨⟨Qq, Qb _⟩, Qb _⟩, Qb _⟩, Qb _⟩) (Jg _)) ?_
 rintro m18 v h ⟨k17, x12, ⟨hkk17, hF14⟩, rfl, rfl⟩
 refine Qi (Qc (Qa (ps_lss Z Z Z) (Qm (Qd (Qi (Jf Z (fun (hk17 : (k17 : Int) < ((n.as.length : Nat) : Int)) => ?_) (fun (hk17 : ¬ (k17 : Int) < ((n.as.length : Nat) : Int)) => ?_)))))))
 obtain ⟨m18', rfl⟩ : ∃ x, m18 = x + 1 := ⟨m18 - 1, by omega⟩
 have hb := bind_l hF14; clear hF14
 obtain ⟨qrm18, H, hF14⟩ := hb
 have hnk17 : k17 < n.as.length := by omega
 have hIk17 : InI ((k17 : Int) + 1) := inI_len hk17 ml11
 refine Ji (Qd (Qi (GoC.block (Qi (Qc (Qa (Qj Z Z) (Qa (Jn Z Z hnk17 Z) (Qa (ps_loadAgR Z hnk17 Z Z) (Jm (ef_alloc Z) (fun β19 => ?_))))))))))
 refine Qa (Qh Z Z) (GoO.eff1 (ef_storeAg Z Z Qy upd_whole Qf Z) (Qm (Qd (Qi (GoC.drawA (.q 0 (.q 1 (.q 2 (.q 3 (.q 4 (.q 5 (.done))))))) follows (by kernel_rfl) ?_)))))
 refine Qx Z (Qr Z Z) (Qx Z (Jd Z Qy Qy Qf Z Z) (Qx Z (Qr Z Z) (Qx Z (Jd Z Qy Qy Qf Z Z) ?_)))
 iterate 2 refine Qx Z (Qh Z Z) ?_
 refine GoP.done (Qd ?_)
 have hb := bind_l H; clear H
 obtain ⟨⟨x20, x21⟩, H, HK22⟩ := hb
 refine GoC.seqJ [(1, slD f), (3, .v (.bool turned)), (4, .ptr β1 4 0 0), (9, .v (.int .u16 x12)), (10, .v (.int .i64 ((k17 : Nat) : Int))), (11, .ptr β19 3 0 0), (17, .v (.int .i64 n.n)), (18, .v (.int .i64 ((k9 : Nat) : Int))), (21, slD n.as), (22, .v (.int .i64 ((n.as.length : Nat) : Int))), (23, .v (.int .i64 ((k17 : Nat) : Int)))] [.one β19 57 3 (st1 (nth [.v (.int .i64 ((n.as.getD k17 El.d).f)), .v (.int .i64 ((n.as.getD k17 El.d).t)), .v (.int .i64 ((n.as.getD k17 El.d).c))])), .one β1 35 4 (st1 (nth [.v (.int .i64 n.n), .v (.int .i64 n.s), .v (.int .i64 n.t), slD n.as]))] (fun v h => v = [(12, .v (.int .i64 x20)), (13, .v (.int .i64 x21))] ∧ h = []) ?_ ?_
 refine Qi (Qc (Qa (Qj Z Z) (Qm (Qd (GoC.cond Z (fun h24 => ?_) (fun h24 => ?_))))))
 replace H := itb_t h24 H
 refine Qc ?_
 iterate 2 refine Qa (Qj Z Z) ?_
 iterate 2 refine Qa (Qh Z Z) ?_
 refine Qm ?_
 cases H
 exact GoK.meet ⟨Z, Z⟩ (Qe Z (Qe Z (Qe Z (Qe Z (Qe Z (Qe Z (Qe Z (Qe Z (Qe Z (Qe Z (Qe Z (Qe Z (Qe Z (Jc)))))))))))))) (Qn _ _ _ _ _ Qp (Jh ⟨⟨⟨Qq, Qb _⟩, Qb _⟩, Qb _⟩) (Qn _ _ _ _ _ Qp (Jh ⟨⟨⟨⟨Qq, Qb _⟩, Qb _⟩, Qb _⟩, Qb _⟩) (Jg _)))
 replace H := itb_f h24 H
 refine Ji ?_
 cases H
 exact GoK.meet ⟨Z, Z⟩ (Qe Z (Qe Z (Qe Z (Qe Z (Qe Z (Qe Z (Qe Z (Qe Z (Qe Z (Qe Z (Qe Z (Qe Z (Qe Z (Jc)))))))))))))) (Qn _ _ _ _ _ Qp (Jh ⟨⟨⟨Qq, Qb _⟩, Qb _⟩, Qb _⟩) (Qn _ _ _ _ _ Qp (Jh ⟨⟨⟨⟨Qq, Qb _⟩, Qb _⟩, Qb _⟩, Qb _⟩) (Jg _)))
 rintro v h ⟨rfl, rfl⟩
 have H := HK22; clear HK22
 have hb := bind_l H; clear H
 obtain ⟨x25, H, HK26⟩ := hb
 refine GoC.seqJ [(1, slD f), (3, .v (.bool turned)), (4, .ptr β1 4 0 0), (10, .v (.int .i64 ((k17 : Nat) : Int))), (12, .v (.int .i64 x20)), (13, .v (.int .i64 x21)), (17, .v (.int .i64 n.n)), (18, .v (.int .i64 ((k9 : Nat) : Int))), (21, slD n.as), (22, .v (.int .i64 ((n.as.length : Nat) : Int))), (23, .v (.int .i64 ((k17 : Nat) : Int)))] [.one β19 57 3 (st1 (nth [.v (.int .i64 ((n.as.getD k17 El.d).f)), .v (.int .i64 ((n.as.getD k17 El.d).t)), .v (.int .i64 ((n.as.getD k17 El.d).c))])), .one β1 35 4 (st1 (nth [.v (.int .i64 n.n), .v (.int .i64 n.s), .v (.int .i64 n.t), slD n.as]))] (fun v h => v = [(9, .v (.int .u16 x25))] ∧ h = []) ?_ ?_
 refine Qi (GoC.drawA (.q 0 (.q 1 (.q 2 (.q 3 (.q 4 (.q 5 (.q 6 (.q 7 (.q 8 (.q 9 (.q 10 (.q 11 (.q 12 (.q 13 (.done))))))))))))))) follows (by kernel_rfl) ?_)
 iterate 2 refine Qx Z (Qj Z Z) ?_
 have c28 := ck_l H; replace H := ck_r H
 refine Qx Z (Jn Z Z c28 Z) (Qx Z (ps_loadR Z c28 Z Z) (Qx Z (Qr Z Z) (Qx Z (Jd Z Qy Qy Qf Z Z) (Qx Z (ps_lss Z Z Z) (Qx Z (Qj Z Z) ?_)))))
 refine GoP.decideD 42 Z (fun h29 => ?_) (fun h29 => ?_)
 replace H := ite_t h29 H
 iterate 2 refine GoP.qT Z Z Z Z (Qj Z Z) ?_
 have c30 := ck_l H; replace H := ck_r H
 refine GoP.qT Z Z Z Z (ps_shr Z Z Z c30) (GoP.qT Z Z Z Z (ps_and Z Z Z) (GoP.qT Z Z Z Z (ps_eql Z Z Z) (Qx Z (ps_pickT Z Z Z) (GoP.done (Qd ?_)))))
 refine Jf Z (fun h31 => ?_) (fun h31 => ?_)
 replace H := ite_t h31 H
 refine Qc ?_
 iterate 2 refine Qa (Qj Z Z) ?_
 have c32 := ck_l H; replace H := ck_r H
 refine Qa (ps_shl Z Z Z c32) (Qa (ps_or Z Z Z) (Qa (Qh Z Z) (Qm ?_)))
 cases H
 exact GoK.meet ⟨Z, Z⟩ (Qe Z (Qe Z (Qe Z (Qe Z (Qe Z (Qe Z (Qe Z (Qe Z (Qe Z (Qe Z (Qe Z (Qe Z (Jc))))))))))))) (Qn _ _ _ _ _ Qp (Jh ⟨⟨⟨Qq, Qb _⟩, Qb _⟩, Qb _⟩) (Qn _ _ _ _ _ Qp (Jh ⟨⟨⟨⟨Qq, Qb _⟩, Qb _⟩, Qb _⟩, Qb _⟩) (Jg _)))
 replace H := ite_f h31 H
 refine Ji ?_
 cases H
 exact GoK.meet ⟨Z, Z⟩ (Qe Z (Qe Z (Qe Z (Qe Z (Qe Z (Qe Z (Qe Z (Qe Z (Qe Z (Qe Z (Qe Z (Qe Z (Jc))))))))))))) (Qn _ _ _ _ _ Qp (Jh ⟨⟨⟨Qq, Qb _⟩, Qb _⟩, Qb _⟩) (Qn _ _ _ _ _ Qp (Jh ⟨⟨⟨⟨Qq, Qb _⟩, Qb _⟩, Qb _⟩, Qb _⟩) (Jg _)))
 replace H := ite_f h29 H
 iterate 5 refine Jp Z Z Z Z Z ?_
 refine Qx Z (ps_pickF Z Z Z) (GoP.done (Qd (GoC.condF Z (Ji ?_))))
 cases H
 exact GoK.meet ⟨Z, Z⟩ (Qe Z (Qe Z (Qe Z (Qe Z (Qe Z (Qe Z (Qe Z (Qe Z (Qe Z (Qe Z (Qe Z (Qe Z (Jc))))))))))))) (Qn _ _ _ _ _ Qp (Jh ⟨⟨⟨Qq, Qb _⟩, Qb _⟩, Qb _⟩) (Qn _ _ _ _ _ Qp (Jh ⟨⟨⟨⟨Qq, Qb _⟩, Qb _⟩, Qb _⟩, Qb _⟩) (Jg _)))
 rintro v h ⟨rfl, rfl⟩
 have H := HK26; clear HK26
 refine Qi (Qc ?_)
 iterate 2 refine Qa (Qj Z Z) ?_
 have c33 := ck_l H; replace H := ck_r H
 refine Qa (Jn Z Z c33 Z) (Qa (ps_loadR Z c33 Z Z) (Qa (ps_gtr Z Z Z) (Qa (Qj Z Z) (GoO.guardD Z Z Z Z (fun h34 => ?_) (fun h34 => ?_)))))
 replace H := ite_t h34 H
 refine Qa (Qj Z Z) (Je Z Z Z (Qa (Qj Z Z) (Je Z Z Z ?_)))
 have c35 := ck_l H; replace H := ck_r H
 refine Qa (ps_shr Z Z Z c35) (Je Z Z Z (Qa (ps_and Z Z Z) (Je Z Z Z (Qa (ps_eql Z Z Z) (Qa (ps_pickT Z Z Z) ?_)))))
 refine Qm (Qd (Jf Z (fun h36 => ?_) (fun h36 => ?_)))
 replace H := ite_t h36 H
 refine Qc ?_
 iterate 2 refine Qa (Qj Z Z) ?_
 have c37 := ck_l H; replace H := ck_r H
 refine Qa (ps_shl Z Z Z c37) (Qa (ps_or Z Z Z) (Qa (Qh Z Z) (Qm (GoK.blk (Qd (Qc (Qa (ps_add Z Z Z hIk17) (Qa (Qj Z Z) ?_))))))))
 refine Qm ?_
 obtain rfl := Qg H
 exact GoK.againJ m18' (by omega) ⟨_, _, ⟨by omega, hF14⟩, Z, Z⟩ (Qe Z (Qe Z (Qe Z (Qe Z (Qe Z (Qe Z (Qe Z (Qe Z (Qe Z (Jc)))))))))) (Qn _ _ _ _ _ Jk (Jh ⟨⟨⟨⟨Qq, Qb _⟩, Qb _⟩, Qb _⟩, Qb _⟩) (Jg _))
 replace H := ite_f h36 H
 refine Ji (GoK.blk (Qd (Qc (Qa (ps_add Z Z Z hIk17) (Qa (Qj Z Z) (Qm ?_))))))
 obtain rfl := Qg H
 exact GoK.againJ m18' (by omega) ⟨_, _, ⟨by omega, hF14⟩, Z, Z⟩ (Qe Z (Qe Z (Qe Z (Qe Z (Qe Z (Qe Z (Qe Z (Qe Z (Qe Z (Jc)))))))))) (Qn _ _ _ _ _ Jk (Jh ⟨⟨⟨⟨Qq, Qb _⟩, Qb _⟩, Qb _⟩, Qb _⟩) (Jg _))
 replace H := ite_f h34 H
 iterate 4 refine Qv Z Z Z Z ?_
 refine Qa (ps_pickF Z Z Z) (Qm (Qd (GoC.condF Z (Ji (GoK.blk (Qd (Qc (Qa (ps_add Z Z Z hIk17) (Qa (Qj Z Z) ?_)))))))))
 refine Qm ?_
 obtain rfl := Qg H
 exact GoK.againJ m18' (by omega) ⟨_, _, ⟨by omega, hF14⟩, Z, Z⟩ (Qe Z (Qe Z (Qe Z (Qe Z (Qe Z (Qe Z (Qe Z (Qe Z (Qe Z (Jc)))))))))) (Qn _ _ _ _ _ Jk (Jh ⟨⟨⟨⟨Qq, Qb _⟩, Qb _⟩, Qb _⟩, Qb _⟩) (Jg _))
 obtain rfl : m18 = 0 := by omega
 refine GoC.exit Z ?_
 cases hF14
 exact GoK.meet ⟨Z, Z⟩ (Qe Z (Qe Z (Qe Z (Qe Z (Qe Z (Qe Z (Jc))))))) (Qn _ _ _ _ _ Qp (Jh ⟨⟨⟨⟨Qq, Qb _⟩, Qb _⟩, Qb _⟩, Qb _⟩) (Jg _))
 rintro v h ⟨rfl, rfl⟩
 have H := HK13; clear HK13
 refine GoK.blk (Qd (Qc (Qa (ps_add Z Z Z hIk9) (Qa (Qj Z Z) (Qm ?_)))))
 obtain rfl := Qg H
 exact GoK.againJ m10' (by omega) ⟨_, _, ⟨by omega, hF6⟩, Z, Z⟩ (Qe Z (Qe Z (Qe Z (Qe Z (Qe Z (Qe Z (Jc))))))) (Qn _ _ _ _ _ Qp (Jh ⟨⟨⟨⟨Qq, Qb _⟩, Qb _⟩, Qb _⟩, Qb _⟩) (Jg _))
 obtain rfl : m10 = 0 := by omega
 refine GoC.exit Z ?_
 cases hF6
 exact GoK.meet ⟨Z, Z⟩ (Qe Z (Jc)) (Qn _ _ _ _ _ Qp (Jh ⟨⟨⟨⟨Qq, Qb _⟩, Qb _⟩, Qb _⟩, Qb _⟩) (Jg _))
 rintro v h ⟨rfl, rfl⟩
 have H := HK5; clear HK5
 refine Qd (Qi (Qc (Qa (Qj Z Z) (Qa (Qh Z Z) (Qm (Qd ?_))))))
 obtain rfl := Qg H
 exact Ja (ds := [.v (.int .u16 x8)]) Try.results64 (Qs (Qw Z) (Qz)) (Ql _) ⟨Z, Z⟩
theorem cut_Least_I (out : Int × Int × Int) : IndepP (cut_Least_P out) := IndepP.of (by rintro _ _ ⟨rfl, rfl⟩; exact ⟨inferInstance, inferInstance⟩)
theorem cut_Least_spec (n : Net) {out : Int × Int × Int} (H : cut_Least_F n = some out) : Does Try.prog 49 [.ag 4 (nth [.v (.int .i64 n.n), .v (.int .i64 n.s), .v (.int .i64 n.t), slD n.as])] [] (cut_Least_P out) := by
 unfold cut_Least_F at H
 refine Does.intro Try.func49 Z Try.ntmps49 Z fun w0 I0 tb0 => ?_
 refine Qi (Qc (Jm (ef_boxAg Z Z) (fun β1 => ?_)))
 iterate 3 refine Qa (Qh Z Z) ?_
 refine Qm (Qd (Qi (Qc (Qa (Jr Z Qy Qy Qf Z Z) ?_))))
 have hb := bind_l H; clear H
 obtain ⟨⟨r2, r4, r5⟩, e6, H⟩ := hb
 refine GoO.effC (ef_call Z (Ql _) (Ql _) (most_Of_spec n e6) (Qt (Lend.agA ⟨⟨⟨⟨Qq, Qo _ _⟩, Qo _ _⟩, Qo _ _⟩, Qo _ _⟩) (Jj)) Z (most_Of_I (r2, r4, r5))) (fun rr HH hp => ?_)
 obtain ⟨β3, rfl, rfl⟩ := hp
 refine Qa (Qj Z Z) ?_
 iterate 3 refine Qa (Jb Z Z Z) ?_
 iterate 3 refine Qa (Qh Z Z) ?_
 refine Qm (Qd (Qi (Qi (Qc (Qa (Qj Z Z) (Qa (ps_neq Z Z Z) (Qm (Qd (Jf Z (fun h7 => ?_) (fun h7 => ?_))))))))))
 replace H := ite_t h7 H
 refine Qi (Qc (Qa (Qj Z Z) ?_))
 iterate 3 refine Qa (Qh Z Z) ?_
 refine Qm (Qd ?_)
 obtain rfl := Qg H
 exact Ja (ds := [.v (.int .u16 0), .v (.int .i64 0), .v (.int .i64 r5)]) Try.results49 (Qs (Qw Z) (Qs (Qw Z) (Qs (Qw Z) (Qz)))) (Ql _) ⟨Z, Z⟩
 replace H := ite_f h7 H
 refine Ji (Qd (Qi (Qc (Qa (Jr Z Js Js Qf Z Z) (Qa (Qj Z Z) (Qa (Qr Z Z) (Qa (Jd Z Js Js Qf Z Z) ?_)))))))
 have hb := bind_l H; clear H
 obtain ⟨r8, e9, H⟩ := hb
 refine GoO.effC (ef_call Z (Ql _) (Qk _ _ _ _ _ Qp (Ql _)) (cut_spread_spec n r2 n.s false e9) (Qt (Lend.agA ⟨⟨⟨⟨Qq, Qo _ _⟩, Qo _ _⟩, Qo _ _⟩, Qo _ _⟩) (Qt (Lend.all' Qy (by first|rfl|omega|(simp only[szl]<;>first|rfl|omega)) Z) (Qt (Qo _ _) (Qt (Qo _ _) (Jj))))) Z (cut_spread_I (r8))) (fun rr HH hp => ?_)
 obtain ⟨rfl, rfl⟩ := hp
 refine Qa (Qj Z Z) ?_
 iterate 3 refine Qa (Qh Z Z) ?_
 refine Qm (Qd ?_)
 obtain rfl := Qg H
 exact Ja (ds := [.v (.int .u16 r8), .v (.int .i64 r4), .v (.int .i64 0)]) Try.results49 (Qs (Qw Z) (Qs (Qw Z) (Qs (Qw Z) (Qz)))) (Ql _) ⟨Z, Z⟩
end Go.Proofs.Ytkfmphlnpmemdaa.Sx.Y
