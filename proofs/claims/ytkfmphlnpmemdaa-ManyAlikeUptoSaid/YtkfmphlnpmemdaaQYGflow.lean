import Derived.Test.YtkfmphlnpmemdaaQTys
import Derived.Test.YtkfmphlnpmemdaaQDA
import Derived.Test.YtkfmphlnpmemdaaQYGslices
import Derived.Test.YtkfmphlnpmemdaaQCoN
set_option maxRecDepth 100000
set_option maxHeartbeats 4000000
set_option linter.unusedVariables false
set_option linter.unusedSimpArgs false
namespace Go.Proofs.Ytkfmphlnpmemdaa.Sx.Y
open Go Go.Proofs.Ytkfmphlnpmemdaa.Sx
theorem flow_Check_I (out : Int) : IndepP (flow_Check_P out) := IndepP.of (by rintro _ _ ⟨rfl, rfl⟩; exact ⟨inferInstance, inferInstance⟩)
theorem flow_Check_spec (n : Net) (f : (List Int)) {out : Int} (H : flow_Check_F n f = some out) : Does Try.prog 72 [.ag 4 (nth [.v (.int .i64 n.n), .v (.int .i64 n.s), .v (.int .i64 n.t), slD n.as]), slD f] [] (flow_Check_P out) := by
 unfold flow_Check_F at H
 refine Does.intro Try.func72 Z Try.ntmps72 Z fun w0 I0 tb0 => ?_
 refine Qi (Qc (Jm (ef_boxAg Z Z) (fun β1 => ?_)))
 refine Qa (Qh Z Z) (Qm (Qd (Qi (Qi (Qc (Qa (Jr Z Qy Qy Qf Z Z) ?_))))))
 have hb := bind_l H; clear H
 obtain ⟨r2, e3, H⟩ := hb
 refine GoO.effC (ef_call Z (Ql _) (Ql _) (graph_CheckNet_spec n e3) (Qt (Lend.agA ⟨⟨⟨⟨Qq, Qo _ _⟩, Qo _ _⟩, Qo _ _⟩, Qo _ _⟩) (Jj)) Z (graph_CheckNet_I (r2))) (fun rr HH hp => ?_)
 obtain ⟨rfl, rfl⟩ := hp
 refine Qa (Qh Z Z) (Qm (Qd (Qi (Qc (Qa (Qj Z Z) (Qa (ps_neq Z Z Z) (Qm (Qd (Jf Z (fun h4 => ?_) (fun h4 => ?_))))))))))
 replace H := ite_t h4 H
 refine Qi (Qc (Qa (Qj Z Z) (Qa (Qh Z Z) (Qm (Qd ?_)))))
 obtain rfl := Qg H
 exact Ja (ds := [.v (.int .i64 r2)]) Try.results72 (Qs (Qw Z) (Qz)) (Ql _) ⟨Z, Z⟩
 replace H := ite_f h4 H
 refine Ji (Qd (Qi (Qi (Qc (Qa (Qj Z Z) (Qa (ps_len Z (by constructor) Z) ?_))))))
 refine GoO.lenLe (n := f.length) (x := .tmp 16) Z (by constructor) sl_lenLe (fun ml5 => ?_)
 refine Qa (Qr Z Z) (Qa (Jd Z Qy Qy Qf Z Z) (Qa (ps_len Z (by constructor) Z) ?_))
 refine GoO.lenLe (n := n.as.length) (x := .tmp 19) Z (by constructor) sl_lenLe (fun ml6 => ?_)
 refine Qa (ps_neq Z Z Z) (Qm (Qd (Jf Z (fun h7 => ?_) (fun h7 => ?_))))
 replace H := ite_t h7 H
 refine Qi (Qc (Qa (Qh Z Z) (Qm (Qd ?_))))
 obtain rfl := Qg H
 exact Ja (ds := [.v (.int .i64 3)]) Try.results72 (Qs (Qw Z) (Qz)) (Ql _) ⟨Z, Z⟩
 replace H := ite_f h7 H
 refine Ji (Qd (Qi (Qc (Jm (ef_alloc Z) (fun β8 => ?_)))))
 refine GoO.le (Le.reH Qy (HLe.arr (α := Int) (pre := []) (g := fun _ => (0 : Int)) ⟨⟨⟨⟨⟨⟨⟨⟨⟨⟨⟨⟨Qq, Qb _⟩, Qb _⟩, Qb _⟩, Qb _⟩, Qb _⟩, Qb _⟩, Qb _⟩, Qb _⟩, Qb _⟩, Qb _⟩, Qb _⟩, Qb _⟩)) ?_
 refine Qm (Qd (Qi (Qi (Qc (Qa (Qj Z Z) (Qa (ps_len Z (by constructor) Z) ?_))))))
 refine Qa (Qj Z Z) (Qm (Qd ?_))
 have hb := bind_l H; clear H
 obtain ⟨q12, hl23, HK10⟩ := hb
 refine GoC.blockJ [(2, .ptr β1 4 0 0)] [.one β1 35 4 (st1 (nth [.v (.int .i64 n.n), .v (.int .i64 n.s), .v (.int .i64 n.t), slD n.as]))] (fun v h => ∃ (f13 : (Nat → Int)), q12 = .go f13 ∧ v = [(6, .ptr β8 12 0 0)] ∧ h = [.one β8 144 12 (arrC (α := Int) [] f13)]) ?_ ?_
 refine GoC.loopJ [(2, _), (22, _), (23, _)] [.one β1 35 4 (st1 (nth [.v (.int .i64 n.n), .v (.int .i64 n.s), .v (.int .i64 n.t), slD n.as]))] (fun mQ v h => ∃ (k14 : Nat) (f9 : (Nat → Int)), (k14 + mQ = f.length ∧ forC (flow_Check_B1 n f) mQ k14 f9 = some q12) ∧ v = [(24, .v (.int .i64 ((k14 : Nat) : Int))), (6, .ptr β8 12 0 0)] ∧ h = [.one β8 144 12 (arrC (α := Int) [] f9)]) f.length ⟨_, _, ⟨by omega, hl23⟩, Z, Z⟩ (Qe Z (Qe Z (Qe Z (Qe Z (Qe Z (Jc)))))) (Qn _ _ _ _ _ Qp (Qu _) (Qn _ _ _ _ _ Qp (Jh ⟨⟨⟨⟨Qq, Qb _⟩, Qb _⟩, Qb _⟩, Qb _⟩) (Jg _))) ?_
 rintro m15 v h ⟨k14, f9, ⟨hkk14, hF11⟩, rfl, rfl⟩
 refine Qi (Qc (Qa (ps_lss Z Z Z) (Qm (Qd (Qi (Jf Z (fun (hk14 : (k14 : Int) < ((f.length : Nat) : Int)) => ?_) (fun (hk14 : ¬ (k14 : Int) < ((f.length : Nat) : Int)) => ?_)))))))
 obtain ⟨m15', rfl⟩ : ∃ x, m15 = x + 1 := ⟨m15 - 1, by omega⟩
 have hb := bind_l hF11; clear hF11
 obtain ⟨qrm15, H, hF11⟩ := hb
 have hnk14 : k14 < f.length := by omega
 have hIk14 : InI ((k14 : Int) + 1) := inI_len hk14 ml5
 refine Ji (Qd (Qi (GoC.block (Qi (Qc (Qa (Qj Z Z) (Qa (Jn Z Z hnk14 Z) (Qa (ps_loadR Z hnk14 Z Z) ?_))))))))
 iterate 2 refine Qa (Qh Z Z) ?_
 refine Qm (Qd (Qi (Qi (Qc (Qa (Qj Z Z) (Qa (ps_lss Z Z Z) (Qa (Qj Z Z) (GoO.guardE Z Z Z Z (fun h16 => ?_) (fun h16 => ?_)))))))))
 replace H := ite_f h16 H
 refine Qa (Qj Z Z) (Je Z Z Z (Qa (Qr Z Z) (Je Z Z Z (Qa (Jd Z Js Js Qf Z Z) (Je Z Z Z ?_)))))
 refine Qa (Qj Z Z) (Je Z Z Z ?_)
 have c17 := ck_l H; replace H := ck_r H
 refine Qa (Jn Z Z c17 Z) (Je Z Z Z (Qa (ps_fieldAddrR Z Z) (Je Z Z Z (Qa (ps_loadR Z c17 Z Z) (Je Z Z Z ?_)))))
 refine Qa (ps_gtr Z Z Z) (Qa (ps_pickF Z Z Z) (Qm (Qd (Jf Z (fun h18 => ?_) (fun h18 => ?_)))))
 replace H := ite_t h18 H
 refine Qi (Qc (Qa (Qh Z Z) (Qm (Qd ?_))))
 obtain rfl := Qg H
 obtain rfl := Qg hF11
 obtain rfl := Qg HK10
 exact Ja (ds := [.v (.int .i64 7)]) Try.results72 (Qs (Qw Z) (Qz)) (Ql _) ⟨Z, Z⟩
 replace H := ite_f h18 H
 refine Ji (Qd (Qi (Qc (Qa (Qr Z Z) (Qa (Jd Z Js Js Qf Z Z) (Qa (Qj Z Z) (Qa (Jn Z Z c17 Z) (Qa (ps_fieldAddrR Z Z) ?_))))))))
 refine Qa (ps_loadR Z c17 Z Z) ?_
 have c19 := ck_l H; replace H := ck_r H
 refine Qa (ps_indexAddrA Z Z c19 Z) (Qa (ps_loadA (α := Int) (i := ((n.as.getD k14 El.d).f).toNat) (off := 0) Z Qy Qy (by simp only [show El.size Int = 1 from rfl, List.length_cons, List.length_nil, eldI]; omega) (idx_lt (n := 12) c19) Z Z Z) ?_)
 refine Qa (Qj Z Z) ?_
 have c20 := ck_l H; replace H := ck_r H
 refine Qa (ps_sub Z Z Z c20) (Qa (ps_indexAddrA Z Z c19 Z) (GoO.eff1 (ef_store Z Z Z Qy (upd_arr1 (α := Int) (i := ((n.as.getD k14 El.d).f).toNat) (v := ((f9 (((n.as.getD k14 El.d).f).toNat)) - (f.getD k14 (0 : Int)))) Z (by simp only [show El.size Int = 1 from rfl, List.length_cons, List.length_nil, eldI]; omega) Z) Qf (blt_of (arr_lt (α := Int) (pre := []) (i := ((n.as.getD k14 El.d).f).toNat) (off := 0) (by simp only [show El.size Int = 1 from rfl, List.length_cons, List.length_nil, eldI]; omega) (idx_lt (n := 12) c19) (by decide) Z))) ?_))
 refine Qm (Qd (Qc (Qa (Qr Z Z) (Qa (Jd Z Js Js Qf Z Z) (Qa (Qj Z Z) (Qa (Jn Z Z c17 Z) (Qa (ps_fieldAddrR Z Z) ?_)))))))
 refine Qa (ps_loadR Z c17 Z Z) ?_
 have c21 := ck_l H; replace H := ck_r H
 refine Qa (ps_indexAddrA Z Z c21 Z) (Qa (ps_loadA (α := Int) (i := ((n.as.getD k14 El.d).t).toNat) (off := 0) Z Qy Qy (by simp only [show El.size Int = 1 from rfl, List.length_cons, List.length_nil, eldI]; omega) (idx_lt (n := 12) c21) Z Z Z) ?_)
 refine Qa (Qj Z Z) ?_
 have c22 := ck_l H; replace H := ck_r H
 refine Qa (ps_add Z Z Z c22) (Qa (ps_indexAddrA Z Z c21 Z) (GoO.eff1 (ef_store Z Z Z Qy (upd_arr1 (α := Int) (i := ((n.as.getD k14 El.d).t).toNat) (v := (((updF f9 (((n.as.getD k14 El.d).f).toNat) ((f9 (((n.as.getD k14 El.d).f).toNat)) - (f.getD k14 (0 : Int)))) (((n.as.getD k14 El.d).t).toNat)) + (f.getD k14 (0 : Int)))) Z (by simp only [show El.size Int = 1 from rfl, List.length_cons, List.length_nil, eldI]; omega) Z) Qf (blt_of (arr_lt (α := Int) (pre := []) (i := ((n.as.getD k14 El.d).t).toNat) (off := 0) (by simp only [show El.size Int = 1 from rfl, List.length_cons, List.length_nil, eldI]; omega) (idx_lt (n := 12) c21) (by decide) Z))) ?_))
 refine Qm (GoK.blk (Qd (Qc (Qa (ps_add Z Z Z hIk14) (Qa (Qj Z Z) (Qm ?_))))))
 obtain rfl := Qg H
 exact GoK.againJ m15' (by omega) ⟨_, _, ⟨by omega, hF11⟩, Z, Z⟩ (Qe Z (Qe Z (Qe Z (Qe Z (Qe Z (Jc)))))) (Qn _ _ _ _ _ Qp (Qu _) (Qn _ _ _ _ _ Qp (Jh ⟨⟨⟨⟨Qq, Qb _⟩, Qb _⟩, Qb _⟩, Qb _⟩) (Jg _)))
 replace H := ite_t h16 H
 iterate 7 refine Qv Z Z Z Z ?_
 refine Qa (ps_pickT Z Z Z) (Qm (Qd (GoC.condT Z (Qi (Qc (Qa (Qh Z Z) (Qm (Qd ?_))))))))
 obtain rfl := Qg H
 obtain rfl := Qg hF11
 obtain rfl := Qg HK10
 exact Ja (ds := [.v (.int .i64 7)]) Try.results72 (Qs (Qw Z) (Qz)) (Ql _) ⟨Z, Z⟩
 obtain rfl : m15 = 0 := by omega
 refine GoC.exit Z ?_
 cases hF11
 exact GoK.meet ⟨_, Z, Z, Z⟩ (Qe Z (Qe Z (Jc))) (Qn _ _ _ _ _ Qp (Qu _) (Qn _ _ _ _ _ Qp (Jh ⟨⟨⟨⟨Qq, Qb _⟩, Qb _⟩, Qb _⟩, Qb _⟩) (Jg _)))
 rintro v h ⟨f13, rfl, rfl, rfl⟩
 have H := HK10; clear HK10
 refine Qd (Qi (Qi (Qc (Qa (Jr Z Qy Qy Qf Z Z) (GoO.le (Le.re 64 Z (DLe.arrV (α := Int) (g := f13))) ?_)))))
 refine Qa (Qj Z Z) (Qm (Qd ?_))
 have hb := bind_l H; clear H
 obtain ⟨q26, hl32, HK24⟩ := hb
 refine GoC.blockJ [] [.one β8 144 12 (arrC (α := Int) [] f13), .one β1 35 4 (st1 (nth [.v (.int .i64 n.n), .v (.int .i64 n.s), .v (.int .i64 n.t), slD n.as]))] (fun v h => q26 = .go () ∧ v = [] ∧ h = []) ?_ ?_
 refine GoC.loopJ [(2, _), (64, _)] [.one β8 144 12 (arrC (α := Int) [] f13), .one β1 35 4 (st1 (nth [.v (.int .i64 n.n), .v (.int .i64 n.s), .v (.int .i64 n.t), slD n.as]))] (fun mQ v h => ∃ (k27 : Nat), (k27 + mQ = 12 ∧ forC (flow_Check_B2 n f13) mQ k27 () = some q26) ∧ v = [(65, .v (.int .i64 ((k27 : Nat) : Int)))] ∧ h = []) 12 ⟨_, ⟨by omega, hl32⟩, Z, Z⟩ (Qe Z (Qe Z (Qe Z (Jc)))) (Qn _ _ _ _ _ Qp (Qu _) (Qn _ _ _ _ _ Qp (Jh ⟨⟨⟨⟨Qq, Qb _⟩, Qb _⟩, Qb _⟩, Qb _⟩) (Jg _))) ?_
 rintro m28 v h ⟨k27, ⟨hkk27, hF25⟩, rfl, rfl⟩
 refine Qi (Qc (Qa (ps_lss Z Z Z) (Qm (Qd (Qi (Jf Z (fun (hk27 : (k27 : Int) < ((12 : Nat) : Int)) => ?_) (fun (hk27 : ¬ (k27 : Int) < ((12 : Nat) : Int)) => ?_)))))))
 obtain ⟨m28', rfl⟩ : ∃ x, m28 = x + 1 := ⟨m28 - 1, by omega⟩
 have hb := bind_l hF25; clear hF25
 obtain ⟨qrm28, H, hF25⟩ := hb
 have hnk27 : k27 < 12 := by omega
 have hIk27 : InI ((k27 : Int) + 1) := inI_cnt hk27 (by unfold InI; omega)
 refine Ji (Qd (Qi (GoC.block (Qi (Qc (Qa (Qj Z Z) (Qa (ps_indexV (α := Int) Z Z ⟨Int.natCast_nonneg _, Int.ofNat_lt.2 hnk27⟩ Z Z Z) ?_)))))))
 iterate 2 refine Qa (Qh Z Z) ?_
 refine Qm (Qd (Qi (Qc (Qa (Qj Z Z) (Qa (ps_neq Z Z Z) (Qa (Qj Z Z) (GoO.guardD Z Z Z Z (fun h29 => ?_) (fun h29 => ?_))))))))
 replace H := ite_t h29 H
 refine Qa (Qj Z Z) (Je Z Z Z (Qa (Qr Z Z) (Je Z Z Z (Qa (Jd Z Js Js Qf Z Z) (Je Z Z Z ?_)))))
 refine Qa (ps_neq Z Z Z) (Qa (ps_pickT Z Z Z) (Qa (Qj Z Z) (GoO.guardD Z Z Z Z (fun h30 => ?_) (fun h30 => ?_))))
 replace H := ite_t h30 H
 refine Qa (Qj Z Z) (Je Z Z Z (Qa (Qr Z Z) (Je Z Z Z (Qa (Jd Z Js Js Qf Z Z) (Je Z Z Z ?_)))))
 refine Qa (ps_neq Z Z Z) (Qa (ps_pickT Z Z Z) (Qm (Qd (Jf Z (fun h31 => ?_) (fun h31 => ?_)))))
 replace H := ite_t h31 H
 refine Qi (Qc (Qa (Qh Z Z) (Qm (Qd ?_))))
 obtain rfl := Qg H
 obtain rfl := Qg hF25
 obtain rfl := Qg HK24
 exact Ja (ds := [.v (.int .i64 8)]) Try.results72 (Qs (Qw Z) (Qz)) (Ql _) ⟨Z, Z⟩
 replace H := ite_f h31 H
 refine Ji (GoK.blk (Qd (Qc (Qa (ps_add Z Z Z hIk27) (Qa (Qj Z Z) (Qm ?_))))))
 obtain rfl := Qg H
 exact GoK.againJ m28' (by omega) ⟨_, ⟨by omega, hF25⟩, Z, Z⟩ (Qe Z (Qe Z (Qe Z (Jc)))) (Qn _ _ _ _ _ Qp (Qu _) (Qn _ _ _ _ _ Qp (Jh ⟨⟨⟨⟨Qq, Qb _⟩, Qb _⟩, Qb _⟩, Qb _⟩) (Jg _)))
 replace H := ite_f h30 H
 iterate 3 refine Qv Z Z Z Z ?_
 refine Qa (ps_pickF Z Z Z) (Qm (Qd (GoC.condF Z (Ji (GoK.blk (Qd (Qc (Qa (ps_add Z Z Z hIk27) (Qa (Qj Z Z) ?_)))))))))
 refine Qm ?_
 obtain rfl := Qg H
 exact GoK.againJ m28' (by omega) ⟨_, ⟨by omega, hF25⟩, Z, Z⟩ (Qe Z (Qe Z (Qe Z (Jc)))) (Qn _ _ _ _ _ Qp (Qu _) (Qn _ _ _ _ _ Qp (Jh ⟨⟨⟨⟨Qq, Qb _⟩, Qb _⟩, Qb _⟩, Qb _⟩) (Jg _)))
 replace H := ite_f h29 H
 iterate 3 refine Qv Z Z Z Z ?_
 refine Qa (ps_pickF Z Z Z) (Qa (Qj Z Z) ?_)
 iterate 4 refine Qv Z Z Z Z ?_
 refine Qa (ps_pickF Z Z Z) (Qm (Qd (GoC.condF Z (Ji (GoK.blk (Qd (Qc (Qa (ps_add Z Z Z hIk27) (Qa (Qj Z Z) ?_)))))))))
 refine Qm ?_
 obtain rfl := Qg H
 exact GoK.againJ m28' (by omega) ⟨_, ⟨by omega, hF25⟩, Z, Z⟩ (Qe Z (Qe Z (Qe Z (Jc)))) (Qn _ _ _ _ _ Qp (Qu _) (Qn _ _ _ _ _ Qp (Jh ⟨⟨⟨⟨Qq, Qb _⟩, Qb _⟩, Qb _⟩, Qb _⟩) (Jg _)))
 obtain rfl : m28 = 0 := by omega
 refine GoC.exit Z ?_
 cases hF25
 exact GoK.meet ⟨Z, Z, Z⟩ (Jc) (Qn _ _ _ _ _ Qp (Qu _) (Qn _ _ _ _ _ Qp (Jh ⟨⟨⟨⟨Qq, Qb _⟩, Qb _⟩, Qb _⟩, Qb _⟩) (Jg _)))
 rintro v h ⟨rfl, rfl, rfl⟩
 have H := HK24; clear HK24
 refine Qd (Qi (Qc (Qa (Qh Z Z) (Qm (Qd ?_)))))
 obtain rfl := Qg H
 exact Ja (ds := [.v (.int .i64 0)]) Try.results72 (Qs (Qw Z) (Qz)) (Ql _) ⟨Z, Z⟩
theorem flow_Value_I (out : Int × Int) : IndepP (flow_Value_P out) := IndepP.of (by rintro _ _ ⟨rfl, rfl⟩; exact ⟨inferInstance, inferInstance⟩)
theorem flow_Value_spec (n : Net) (f : (List Int)) {out : Int × Int} (H : flow_Value_F n f = some out) : Does Try.prog 66 [.ag 4 (nth [.v (.int .i64 n.n), .v (.int .i64 n.s), .v (.int .i64 n.t), slD n.as]), slD f] [] (flow_Value_P out) := by
 unfold flow_Value_F at H
 refine Does.intro Try.func66 Z Try.ntmps66 Z fun w0 I0 tb0 => ?_
 refine Qi (Qc (Jm (ef_boxAg Z Z) (fun β1 => ?_)))
 iterate 2 refine Qa (Qh Z Z) ?_
 refine Qm (Qd (Qi (Qi (Qc (Qa (Jr Z Qy Qy Qf Z Z) (Qa (Qj Z Z) ?_))))))
 have hb := bind_l H; clear H
 obtain ⟨r2, e3, H⟩ := hb
 refine GoO.effC (ef_call Z (Ql _) (Ql _) (flow_Check_spec n f e3) (Qt (Lend.agA ⟨⟨⟨⟨Qq, Qo _ _⟩, Qo _ _⟩, Qo _ _⟩, Qo _ _⟩) (Qt (Qo _ _) (Jj))) Z (flow_Check_I (r2))) (fun rr HH hp => ?_)
 obtain ⟨rfl, rfl⟩ := hp
 refine Qa (Qh Z Z) (Qm (Qd (Qi (Qc (Qa (Qj Z Z) (Qa (ps_neq Z Z Z) (Qm (Qd (Jf Z (fun h4 => ?_) (fun h4 => ?_))))))))))
 replace H := ite_t h4 H
 refine Qi (Qc (Qa (Qj Z Z) ?_))
 iterate 2 refine Qa (Qh Z Z) ?_
 refine Qm (Qd ?_)
 obtain rfl := Qg H
 exact Ja (ds := [.v (.int .i64 0), .v (.int .i64 r2)]) Try.results66 (Qs (Qw Z) (Qs (Qw Z) (Qz))) (Ql _) ⟨Z, Z⟩
 replace H := ite_f h4 H
 refine Ji (Qd (Qi (Qc (Qa (Qh Z Z) (Qm (Qd (Qi (Qi (Qc (Qa (Qr Z Z) (Qa (Jd Z Qy Qy Qf Z Z) (Qa (ps_len Z (by constructor) Z) ?_))))))))))))
 refine GoO.lenLe (n := n.as.length) (x := .tmp 17) Z (by constructor) sl_lenLe (fun ml5 => ?_)
 refine Qa (Qj Z Z) (Qm (Qd ?_))
 have hb := bind_l H; clear H
 obtain ⟨x10, hl23, HK7⟩ := hb
 refine GoC.blockJ [] [.one β1 35 4 (st1 (nth [.v (.int .i64 n.n), .v (.int .i64 n.s), .v (.int .i64 n.t), slD n.as]))] (fun v h => v = [(7, .v (.int .i64 x10))] ∧ h = []) ?_ ?_
 refine GoC.loopJ [(1, _), (2, _), (17, _), (18, _)] [.one β1 35 4 (st1 (nth [.v (.int .i64 n.n), .v (.int .i64 n.s), .v (.int .i64 n.t), slD n.as]))] (fun mQ v h => ∃ (k11 : Nat) (x6 : Int), (k11 + mQ = n.as.length ∧ forN (flow_Value_B1 n f) mQ k11 x6 = some x10) ∧ v = [(19, .v (.int .i64 ((k11 : Nat) : Int))), (7, .v (.int .i64 x6))] ∧ h = []) n.as.length ⟨_, _, ⟨by omega, hl23⟩, Z, Z⟩ (Qe Z (Qe Z (Qe Z (Qe Z (Qe Z (Qe Z (Jc))))))) (Qn _ _ _ _ _ Qp (Jh ⟨⟨⟨⟨Qq, Qb _⟩, Qb _⟩, Qb _⟩, Qb _⟩) (Jg _)) ?_
 rintro m12 v h ⟨k11, x6, ⟨hkk11, hF8⟩, rfl, rfl⟩
 refine Qi (Qc (Qa (ps_lss Z Z Z) (Qm (Qd (Qi (Jf Z (fun (hk11 : (k11 : Int) < ((n.as.length : Nat) : Int)) => ?_) (fun (hk11 : ¬ (k11 : Int) < ((n.as.length : Nat) : Int)) => ?_)))))))
 obtain ⟨m12', rfl⟩ : ∃ x, m12 = x + 1 := ⟨m12 - 1, by omega⟩
 have hb := bind_l hF8; clear hF8
 obtain ⟨qrm12, H, hF8⟩ := hb
 have hnk11 : k11 < n.as.length := by omega
 have hIk11 : InI ((k11 : Int) + 1) := inI_len hk11 ml5
 refine Ji (Qd (Qi (GoC.block (Qi (Qc (Qa (Qj Z Z) (Qa (Jn Z Z hnk11 Z) (Qa (ps_loadAgR Z hnk11 Z Z) (Jm (ef_alloc Z) (fun β13 => ?_))))))))))
 refine Qa (Qh Z Z) (GoO.eff1 (ef_storeAg Z Z Qy upd_whole Qf Z) (Qm (Qd ?_)))
 have hb := bind_l H; clear H
 obtain ⟨x14, H, HK15⟩ := hb
 refine GoC.seqJ [(1, slD f), (2, .ptr β1 4 0 0), (8, .v (.int .i64 ((k11 : Nat) : Int))), (9, .ptr β13 3 0 0), (17, slD n.as), (18, .v (.int .i64 ((n.as.length : Nat) : Int))), (19, .v (.int .i64 ((k11 : Nat) : Int)))] [.one β13 57 3 (st1 (nth [.v (.int .i64 ((n.as.getD k11 El.d).f)), .v (.int .i64 ((n.as.getD k11 El.d).t)), .v (.int .i64 ((n.as.getD k11 El.d).c))])), .one β1 35 4 (st1 (nth [.v (.int .i64 n.n), .v (.int .i64 n.s), .v (.int .i64 n.t), slD n.as]))] (fun v h => v = [(7, .v (.int .i64 x14))] ∧ h = []) ?_ ?_
 refine Qi (Qc (Qa (Qr Z Z) (Qa (Jd Z Qy Qy Qf Z Z) (Qa (Qr Z Z) (Qa (Jd Z Js Js Qf Z Z) (Qa (ps_eql Z Z Z) ?_))))))
 refine Qm (Qd (Jf Z (fun h17 => ?_) (fun h17 => ?_)))
 replace H := ite_t h17 H
 refine Qc ?_
 iterate 3 refine Qa (Qj Z Z) ?_
 have c18 := ck_l H; replace H := ck_r H
 refine Qa (Jn Z Z c18 Z) (Qa (ps_loadR Z c18 Z Z) ?_)
 have c19 := ck_l H; replace H := ck_r H
 refine Qa (ps_add Z Z Z c19) (Qa (Qh Z Z) (Qm ?_))
 cases H
 exact GoK.meet ⟨Z, Z⟩ (Qe Z (Qe Z (Qe Z (Qe Z (Qe Z (Qe Z (Qe Z (Qe Z (Jc))))))))) (Qn _ _ _ _ _ Qp (Jh ⟨⟨⟨Qq, Qb _⟩, Qb _⟩, Qb _⟩) (Qn _ _ _ _ _ Qp (Jh ⟨⟨⟨⟨Qq, Qb _⟩, Qb _⟩, Qb _⟩, Qb _⟩) (Jg _)))
 replace H := ite_f h17 H
 refine Ji ?_
 cases H
 exact GoK.meet ⟨Z, Z⟩ (Qe Z (Qe Z (Qe Z (Qe Z (Qe Z (Qe Z (Qe Z (Qe Z (Jc))))))))) (Qn _ _ _ _ _ Qp (Jh ⟨⟨⟨Qq, Qb _⟩, Qb _⟩, Qb _⟩) (Qn _ _ _ _ _ Qp (Jh ⟨⟨⟨⟨Qq, Qb _⟩, Qb _⟩, Qb _⟩, Qb _⟩) (Jg _)))
 rintro v h ⟨rfl, rfl⟩
 have H := HK15; clear HK15
 refine Qi (Qc (Qa (Qr Z Z) (Qa (Jd Z Qy Qy Qf Z Z) (Qa (Qr Z Z) (Qa (Jd Z Js Js Qf Z Z) (Qa (ps_eql Z Z Z) ?_))))))
 refine Qm (Qd (Jf Z (fun h20 => ?_) (fun h20 => ?_)))
 replace H := ite_t h20 H
 refine Qc ?_
 iterate 3 refine Qa (Qj Z Z) ?_
 have c21 := ck_l H; replace H := ck_r H
 refine Qa (Jn Z Z c21 Z) (Qa (ps_loadR Z c21 Z Z) ?_)
 have c22 := ck_l H; replace H := ck_r H
 refine Qa (ps_sub Z Z Z c22) (Qa (Qh Z Z) (Qm (GoK.blk (Qd (Qc (Qa (ps_add Z Z Z hIk11) (Qa (Qj Z Z) (Qm ?_))))))))
 obtain rfl := Qg H
 exact GoK.againJ m12' (by omega) ⟨_, _, ⟨by omega, hF8⟩, Z, Z⟩ (Qe Z (Qe Z (Qe Z (Qe Z (Qe Z (Qe Z (Jc))))))) (Qn _ _ _ _ _ Jk (Jh ⟨⟨⟨⟨Qq, Qb _⟩, Qb _⟩, Qb _⟩, Qb _⟩) (Jg _))
 replace H := ite_f h20 H
 refine Ji (GoK.blk (Qd (Qc (Qa (ps_add Z Z Z hIk11) (Qa (Qj Z Z) (Qm ?_))))))
 obtain rfl := Qg H
 exact GoK.againJ m12' (by omega) ⟨_, _, ⟨by omega, hF8⟩, Z, Z⟩ (Qe Z (Qe Z (Qe Z (Qe Z (Qe Z (Qe Z (Jc))))))) (Qn _ _ _ _ _ Jk (Jh ⟨⟨⟨⟨Qq, Qb _⟩, Qb _⟩, Qb _⟩, Qb _⟩) (Jg _))
 obtain rfl : m12 = 0 := by omega
 refine GoC.exit Z ?_
 cases hF8
 exact GoK.meet ⟨Z, Z⟩ (Qe Z (Jc)) (Qn _ _ _ _ _ Qp (Jh ⟨⟨⟨⟨Qq, Qb _⟩, Qb _⟩, Qb _⟩, Qb _⟩) (Jg _))
 rintro v h ⟨rfl, rfl⟩
 have H := HK7; clear HK7
 refine Qd (Qi (Qc (Qa (Qj Z Z) ?_)))
 iterate 2 refine Qa (Qh Z Z) ?_
 refine Qm (Qd ?_)
 obtain rfl := Qg H
 exact Ja (ds := [.v (.int .i64 x10), .v (.int .i64 0)]) Try.results66 (Qs (Qw Z) (Qs (Qw Z) (Qz))) (Ql _) ⟨Z, Z⟩
theorem flow_amount_I (out : Piece) : IndepP (flow_amount_P out) := IndepP.of (by rintro _ _ ⟨β1, rfl, rfl⟩; exact ⟨inferInstance, inferInstance⟩)
theorem flow_amount_spec (left : (List Int)) (arcs : (List Int)) {out : Piece} (H : flow_amount_F left arcs = some out) : Does Try.prog 76 [slD left, slD arcs] [] (flow_amount_P out) := by
 unfold flow_amount_F at H
 refine Does.intro Try.func76 Z Try.ntmps76 Z fun w0 I0 tb0 => ?_
 refine Qi (Qc (Jm (ef_alloc Z) (fun β1 => ?_)))
 refine Qm (Qd (Qi (GoC.drawA (.q 0 (.q 1 (.q 2 (.q 3 (.q 4 (.q 5 (.q 6 (.two 7 9 (.q 8 (.one 9 (.one 10 (.done)))) (.one 7 (.q 8 (.one 10 (.done)))))))))))) follows (by kernel_rfl) ?_)))
 iterate 2 refine Qx Z (Qj Z Z) ?_
 have c2 := ck_l H; replace H := ck_r H
 refine Qx Z (Jn (i := 0) Z Z c2 Z) ?_
 refine Qx Z (ps_loadR Z c2 Z Z) ?_
 have c3 := ck_l H; replace H := ck_r H
 refine Qx Z (ps_indexAddrR Z Z c3 Z) (Qx Z (ps_loadR Z (idx_lt c3) Z Z) (Qx Z (Qj Z Z) ?_))
 have hb := bind_l H; clear H
 obtain ⟨r4, e6, H⟩ := hb
 apply GoP.fork2
 exact Z
 exact Z
 exact Qq
 exact Qq
 exact ef_call Z (Ql _) (Ql _) (slices_Clone_int_spec arcs e6) (Qt (Qo _ _) (Jj)) Z (slices_Clone_int_I (r4))
 exact ef_alloc Z
 exact (Qk _ _ _ _ _ Qp (Ql _))
 exact (Qk _ _ _ _ _ Qp (Ql _))
 intro hQ
 rintro _ ⟨_, _, hp, rfl⟩
 obtain ⟨β5, rfl, rfl⟩ := hp
 refine Qx Z (ps_build (Jl _ _ _ _ _ _ _ _ FdP.of (Part.one _ Z Z) Z Z (Jl _ _ _ _ _ _ _ _ FdP.of (Part.one _ Z Z) Z Z (Parts.nil _))) Z) (GoP.oneB Z Qq (ef_alloc Z) (Qk _ _ _ _ _ Jk (Ql _)) (fun β9 => ?_))
 refine GoP.one1 Z Qq (ef_storeAg Z Z Qy upd_whole Qf Z) (Qk _ _ _ _ _ Qp (Qk _ _ _ _ _ Jk (Ql _))) ?_
 exact GoP.done (hQ β5 β9)
 intro hQ
 rintro _ ⟨β8, rfl⟩
 refine GoP.oneC Z Qq (ef_call Z (Ql _) (Ql _) (slices_Clone_int_spec arcs e6) (Qt (Qo _ _) (Jj)) Z (slices_Clone_int_I (r4))) (Qk _ _ _ _ _ Jk (Ql _)) (fun rr HH hp => ?_)
 obtain ⟨β5, rfl, rfl⟩ := hp
 refine Qx Z (ps_build (Jl _ _ _ _ _ _ _ _ FdP.of (Part.one _ Z Z) Z Z (Jl _ _ _ _ _ _ _ _ FdP.of (Part.one _ Z Z) Z Z (Parts.nil _))) Z) (GoP.one1 Z Qq (ef_storeAg Z Z Js upd_whole Qf Z) (Qk _ _ _ _ _ Jk (Qk _ _ _ _ _ Jk (Ql _))) (GoP.done (GoK.le ?_ (hQ β5 β8))))
 refine Le.ofDW ?_ (Qn _ _ _ _ _ Jk (Qu _) (Qn _ _ _ _ _ Qp (Qu _) (Qn _ _ _ _ _ Qp (Qu _) (Jg _))))
 repeat (first | exact EnvLeW.nil | refine EnvLeW.cons rfl ?_ | refine EnvLeW.skip rfl ?_)
 intro β5 β9
 refine Qd (Qi (Qi (Qc (Qa (Qj Z Z) (Qa (ps_len Z (by constructor) Z) ?_)))))
 refine GoO.lenLe (n := arcs.length) (x := .tmp 17) Z (by constructor) sl_lenLe (fun ml10 => ?_)
 refine Qa (Qj Z Z) (Qm (Qd ?_))
 have hb := bind_l H; clear H
 obtain ⟨x15, hl19, HK12⟩ := hb
 refine GoC.blockJ [(4, .ptr β1 2 0 0)] [.one β5 3 1 (row r4), .one β1 115 2 (st1 (nth [.v (.int .i64 0), .v (.slice none 0 0)]))] (fun v h => v = [(5, .ptr β9 2 0 0)] ∧ h = [.one β9 115 2 (st1 (nth [.v (.int .i64 x15), .own β5 1 0 r4.length]))]) ?_ ?_
 refine GoC.loopJ [(0, _), (4, _), (17, _), (18, _)] [.one β5 3 1 (row r4), .one β1 115 2 (st1 (nth [.v (.int .i64 0), .v (.slice none 0 0)]))] (fun mQ v h => ∃ (k16 : Nat) (x11 : Int), (k16 + mQ = arcs.length ∧ forN (flow_amount_B1 left arcs) mQ k16 x11 = some x15) ∧ v = [(19, .v (.int .i64 ((k16 : Nat) : Int))), (5, .ptr β9 2 0 0)] ∧ h = [.one β9 115 2 (st1 (nth [.v (.int .i64 x11), .own β5 1 0 r4.length]))]) arcs.length ⟨_, _, ⟨by omega, hl19⟩, Z, Z⟩ (Qe Z (Qe Z (Qe Z (Qe Z (Qe Z (Qe Z (Jc))))))) (Qn _ _ _ _ _ Qp (Jh ⟨⟨Qq, Qb _⟩, Qb _⟩) (Qn _ _ _ _ _ Qp (Qu _) (Qn _ _ _ _ _ Qp (Jh ⟨⟨Qq, Qb _⟩, Qb _⟩) (Jg _)))) ?_
 rintro m17 v h ⟨k16, x11, ⟨hkk16, hF13⟩, rfl, rfl⟩
 refine Qi (Qc (Qa (ps_lss Z Z Z) (Qm (Qd (Qi (Jf Z (fun (hk16 : (k16 : Int) < ((arcs.length : Nat) : Int)) => ?_) (fun (hk16 : ¬ (k16 : Int) < ((arcs.length : Nat) : Int)) => ?_)))))))
 obtain ⟨m17', rfl⟩ : ∃ x, m17 = x + 1 := ⟨m17 - 1, by omega⟩
 have hb := bind_l hF13; clear hF13
 obtain ⟨qrm17, H, hF13⟩ := hb
 have hnk16 : k16 < arcs.length := by omega
 have hIk16 : InI ((k16 : Int) + 1) := inI_len hk16 ml10
 refine Ji (Qd (Qi (GoC.block (Qi (Qc (Qa (Jn Z Z hnk16 Z) (Qa (ps_loadR Z hnk16 Z Z) (Qa (Qh Z Z) (Qm (Qd (GoC.drawP (.q 0 (.q 2 (.q 3 (.q 4 (.q 5 (.one 1 (.q 6 (.q 7 (.one 8 (.done)))))))))) [] follows (by kernel_rfl) (Ql _) ?_)))))))))))
 refine Qx Z (Qr Z Z) ?_
 iterate 2 refine Qx Z (Qj Z Z) ?_
 have c18 := ck_l H; replace H := ck_r H
 refine Qx Z (ps_indexAddrR Z Z c18 Z) (Qx Z (ps_loadR Z (idx_lt c18) Z Z) (GoP.oneN Z (Jd Z Qy Qy Qf Z Z) (Ql _) (Qx Z (ps_min Z Z Z) (Qx Z (Qr Z Z) (GoP.one1 Z Qq (ef_store Z Z Z Qy upd_st1 Qf Z) (Qk _ _ _ _ _ Qp (Ql _)) ?_)))))
 refine GoP.done (GoK.blk (Qd (Qc (Qa (ps_add Z Z Z hIk16) (Qa (Qj Z Z) (Qm ?_))))))
 obtain rfl := Qg H
 exact GoK.againJ m17' (by omega) ⟨_, _, ⟨by omega, hF13⟩, Z, Z⟩ (Qe Z (Qe Z (Qe Z (Qe Z (Qe Z (Qe Z (Jc))))))) (Qn _ _ _ _ _ Qp (Jh ⟨⟨Qq, Qb _⟩, Qb _⟩) (Qn _ _ _ _ _ Qp (Qu _) (Qn _ _ _ _ _ Qp (Jh ⟨⟨Qq, Qb _⟩, Qb _⟩) (Jg _))))
 obtain rfl : m17 = 0 := by omega
 refine GoC.exit Z ?_
 cases hF13
 exact GoK.meet ⟨Z, Z⟩ (Qe Z (Qe Z (Jc))) (Qn _ _ _ _ _ Qp (Jh ⟨⟨Qq, Qb _⟩, Qb _⟩) (Qn _ _ _ _ _ Qp (Qu _) (Qn _ _ _ _ _ Qp (Jh ⟨⟨Qq, Qb _⟩, Qb _⟩) (Jg _))))
 rintro v h ⟨rfl, rfl⟩
 have H := HK12; clear HK12
 refine Qd (Qi (Qc (Qa (Jr Z Qy Qy Qf Z Z) (GoO.eff1 (ef_storeAg Z Z At.p2 upd_whole Qf Z) (Qm (Qd ?_))))))
 obtain rfl := Qg H
 exact Ja (ds := [.ag 2 (nth [.v (.int .i64 x15), .own β5 1 0 r4.length])]) Try.results76 (Qs (ResD.le (ResD.cellAg Z At.p2 Qf Z) (by exact DLe.ag ⟨⟨Qq, Qb _⟩, Qb _⟩)) (Qz)) (Qk _ _ _ _ _ Jk (Ql _)) ⟨β5, Z, Z⟩
theorem flow_piece_c1_I (out : Bool) : IndepP (flow_piece_c1_P out) := IndepP.of (by rintro _ _ ⟨rfl, rfl⟩; exact ⟨inferInstance, inferInstance⟩)
theorem flow_piece_c1_spec (p0 : Arc) (c_0 : Int) {out : Bool} (H : flow_piece_c1_F p0 c_0 = some out) : Does Try.prog 75 [.ag 3 (nth [.v (.int .i64 p0.f), .v (.int .i64 p0.t), .v (.int .i64 p0.c)]), .rp 1 1 (row [c_0]).get 0 0] [] (flow_piece_c1_P out) := by
 unfold flow_piece_c1_F at H
 refine Does.intro Try.func75 Z Try.ntmps75 Z fun w0 I0 tb0 => ?_
 refine Qi (Qc (Jm (ef_boxAg Z Z) (fun β1 => ?_)))
 refine Qa (Qh Z Z) (Qm (Qd (Qi (Qc (Qa (Qr Z Z) (Qa (Jd Z Qy Qy Qf Z Z) (Qa (ps_loadR Z Qf Z Z) (Qa (ps_eql Z Z Z) ?_))))))))
 refine Qa (Qh Z Z) (Qm (Qd ?_))
 obtain rfl := Qg H
 exact Ja (ds := [.v (.bool (decide (p0.f = c_0)))]) Try.results75 (Qs (Qw Z) (Qz)) (Ql _) ⟨Z, Z⟩
theorem slices_IndexFunc_Arc_flow_piece_c1_I (out : Int) : IndepP (slices_IndexFunc_Arc_flow_piece_c1_P out) := IndepP.of (by rintro _ _ ⟨rfl, rfl⟩; exact ⟨inferInstance, inferInstance⟩)
theorem slices_IndexFunc_Arc_flow_piece_c1_spec (p0 : (List Arc)) (c1_0 : Int) {out : Int} (H : slices_IndexFunc_Arc_flow_piece_c1_F p0 c1_0 = some out) : Does Try.prog 74 [slD p0, .fn 75 1 (nth [.rp 1 1 (row [c1_0]).get 0 0])] [] (slices_IndexFunc_Arc_flow_piece_c1_P out) := by
 unfold slices_IndexFunc_Arc_flow_piece_c1_F at H
 refine Does.intro Try.func74 Z Try.ntmps74 Z fun w0 I0 tb0 => ?_
 refine Qi (Qc (Qa (Qh Z Z) (Qm (Qd (Qi (Qi (Qc (Qa (Qj Z Z) (Qa (ps_len Z (by constructor) Z) ?_)))))))))
 refine GoO.lenLe (n := p0.length) (x := .tmp 6) Z (by constructor) sl_lenLe (fun ml1 => ?_)
 refine Qa (Qj Z Z) (Qm (Qd ?_))
 have hb := bind_l H; clear H
 obtain ⟨q4, hl10, HK2⟩ := hb
 refine GoC.blockJ [] [] (fun v h => q4 = .go () ∧ v = [] ∧ h = []) ?_ ?_
 refine GoC.loopJ [(0, _), (1, _), (7, _)] [] (fun mQ v h => ∃ (k5 : Nat), (k5 + mQ = p0.length ∧ forC (slices_IndexFunc_Arc_flow_piece_c1_B1 p0 c1_0) mQ k5 () = some q4) ∧ v = [(8, .v (.int .i64 ((k5 : Nat) : Int)))] ∧ h = []) p0.length ⟨_, ⟨by omega, hl10⟩, Z, Z⟩ (Qe Z (Qe Z (Qe Z (Qe Z (Jc))))) (Jg _) ?_
 rintro m6 v h ⟨k5, ⟨hkk5, hF3⟩, rfl, rfl⟩
 refine Qi (Qc (Qa (ps_lss Z Z Z) (Qm (Qd (Qi (Jf Z (fun (hk5 : (k5 : Int) < ((p0.length : Nat) : Int)) => ?_) (fun (hk5 : ¬ (k5 : Int) < ((p0.length : Nat) : Int)) => ?_)))))))
 obtain ⟨m6', rfl⟩ : ∃ x, m6 = x + 1 := ⟨m6 - 1, by omega⟩
 have hb := bind_l hF3; clear hF3
 obtain ⟨qrm6, H, hF3⟩ := hb
 have hnk5 : k5 < p0.length := by omega
 have hIk5 : InI ((k5 : Int) + 1) := inI_len hk5 ml1
 refine Ji (Qd (Qi (GoC.block (Qi (Qc (Qa (Qj Z Z) (Qa (Qh Z Z) (Qm (Qd (Qi (Qc ?_)))))))))))
 iterate 3 refine Qa (Qj Z Z) ?_
 refine Qa (Jn Z Z hnk5 Z) (Qa (ps_loadAgR Z hnk5 Z Z) ?_)
 have hb := bind_l H; clear H
 obtain ⟨r7, e8, H⟩ := hb
 refine GoO.effC (ef_callv Z Z Z (Ql _) (Ql _) (flow_piece_c1_spec (p0.getD k5 El.d) c1_0 e8) (Qt (Lend.agA ⟨⟨⟨Qq, Qo _ _⟩, Qo _ _⟩, Qo _ _⟩) (Qt (Qo _ _) (Jj))) Z (flow_piece_c1_I (r7))) (fun rr HH hp => ?_)
 obtain ⟨rfl, rfl⟩ := hp
 refine Qm (Qd (GoC.cond Z (fun h9 => ?_) (fun h9 => ?_)))
 replace H := itb_t h9 H
 refine Qi (Qc (Qa (Qj Z Z) (Qa (Qh Z Z) (Qm (Qd ?_)))))
 obtain rfl := Qg H
 obtain rfl := Qg hF3
 obtain rfl := Qg HK2
 exact Ja (ds := [.v (.int .i64 ((k5 : Nat) : Int))]) Try.results74 (Qs (Qw Z) (Qz)) (Ql _) ⟨Z, Z⟩
 replace H := itb_f h9 H
 refine Ji (GoK.blk (Qd (Qc (Qa (ps_add Z Z Z hIk5) (Qa (Qj Z Z) (Qm ?_))))))
 obtain rfl := Qg H
 exact GoK.againJ m6' (by omega) ⟨_, ⟨by omega, hF3⟩, Z, Z⟩ (Qe Z (Qe Z (Qe Z (Qe Z (Jc))))) (Jg _)
 obtain rfl : m6 = 0 := by omega
 refine GoC.exit Z ?_
 cases hF3
 exact GoK.meet ⟨Z, Z, Z⟩ (Jc) (Jg _)
 rintro v h ⟨rfl, rfl, rfl⟩
 have H := HK2; clear HK2
 refine Qd (Qi (Qc (Qa (Qh Z Z) (Qm (Qd ?_)))))
 obtain rfl := Qg H
 exact Ja (ds := [.v (.int .i64 (-1))]) Try.results74 (Qs (Qw Z) (Qz)) (Ql _) ⟨Z, Z⟩
theorem flow_piece_I (out : Piece × Bool) : IndepP (flow_piece_P out) := IndepP.of (by rintro _ _ ⟨β1, rfl, rfl⟩; exact ⟨inferInstance, inferInstance⟩)
theorem flow_piece_spec (n : Net) (left : (List Int)) (at_ : Int) {out : Piece × Bool} (H : flow_piece_F n left at_ = some out) : Does Try.prog 68 [.ag 4 (nth [.v (.int .i64 n.n), .v (.int .i64 n.s), .v (.int .i64 n.t), slD n.as]), slD left, .v (.int .i64 at_)] [] (flow_piece_P out) := by
 unfold flow_piece_F at H
 refine Does.intro Try.func68 Z Try.ntmps68 Z fun w0 I0 tb0 => ?_
 refine Qi (Qc (Jm (ef_boxAg Z Z) (fun β1 => ?_)))
 refine Jm (ef_box Z Z Z) (fun β2 => ?_)
 refine Jm (ef_alloc Z) (fun β3 => ?_)
 refine Qa (Qh Z Z) (Qm (Qd (Qi (Qc (Qa (Qh Z Z) (Qm (Qd (Qi (Qc (Jm (ef_makeMap Z) (fun β4 => ?_)))))))))))
 refine Qa (Jd Z At.p2 At.p2 Qf Z Z) (GoO.eff1 (ef_mapIns Z Z Z Qy) (Qa (Qj Z Z) (Qa (Qh Z Z) (Qm (Qd (Qi ?_))))))
 have hb := bind_l H; clear H
 obtain ⟨q11, hl45, HK9⟩ := hb
 refine GoC.blockJ [(1, slD left), (6, .ptr β3 2 0 0)] [.one β3 115 2 (st1 (nth [.v (.int .i64 0), .v (.slice none 0 0)])), .one β1 35 4 (st1 (nth [.v (.int .i64 n.n), .v (.int .i64 n.s), .v (.int .i64 n.t), slD n.as]))] (fun v h => ∃ (x12 : Int) (l13 : (List Int)) (mm14 : (List (Int × Int))) (β6 : BK), q11 = .go (x12, l13, mm14) ∧ v = [(8, .own β6 1 0 l13.length)] ∧ h = [.one β2 3 1 (st1 (nth [.v (.int .i64 x12)])), .one β6 3 1 (row l13), .mp β4 mm14]) ?_ ?_
 refine GoC.loopJ [(1, _), (3, _), (6, _)] [.one β3 115 2 (st1 (nth [.v (.int .i64 0), .v (.slice none 0 0)])), .one β1 35 4 (st1 (nth [.v (.int .i64 n.n), .v (.int .i64 n.s), .v (.int .i64 n.t), slD n.as]))] (fun mQ v h => ∃ (x5 : Int) (l7 : (List Int)) (mm8 : (List (Int × Int))) (β6 : BK), loopC (flow_piece_B1 n left) mQ (x5, l7, mm8) = some q11 ∧ v = [(5, .ptr β2 1 0 0), (8, .own β6 1 0 l7.length), (9, .v (.map (some β4.b)))] ∧ h = [.one β2 3 1 (st1 (nth [.v (.int .i64 x5)])), .one β6 3 1 (row l7), .mp β4 mm8]) 1000000 ⟨_, _, _, ⟨0, 0, 0⟩, hl45, Z, Z⟩ (Qe Z (Jo Z (DLe.nilOwn) (Qe Z (Qe Z (Qe Z (Qe Z (Jc))))))) (Qn _ _ _ _ _ Rem.p2 (Jh ⟨Qq, Qb _⟩) (TkD.no _ _ _ _ _ Z (Qn _ _ _ _ _ Qp (Qu _) (Qn _ _ _ _ _ Qp (Jh ⟨⟨Qq, Qb _⟩, Qb _⟩) (Qn _ _ _ _ _ Qp (Jh ⟨⟨⟨⟨Qq, Qb _⟩, Qb _⟩, Qb _⟩, Qb _⟩) (Jg _)))))) ?_
 rintro m15 v h ⟨x5, l7, mm8, β6, hF10, rfl, rfl⟩
 obtain ⟨m15', rfl⟩ | rfl : (∃ x, m15 = x + 1) ∨ m15 = 0 := by cases m15 <;> simp
 case inr => cases hF10
 have hb := bind_l hF10; clear hF10
 obtain ⟨qrm15, H, hF10⟩ := hb
 refine Qi (Qi (Qc (Qa (Jd Z Qy Qy Qf Z Z) (Qa (Qr Z Z) (Qa (Jd Z At.p4 At.p4 Qf Z Z) (Qa (ps_neq Z Z Z) (Qm (Qd ?_))))))))
 refine Jf Z (fun h16 => ?_) (fun h16 => ?_)
 replace H := ite_t h16 H
 refine Ji (Qd (GoC.block (Qi (Qc (Qa (Qr Z Z) (Qa (Jd Z At.p4 At.p4 Qf Z Z) (Qa (ps_makeFunc Z Z Z) ?_)))))))
 have hb := bind_l H; clear H
 obtain ⟨r17, e18, H⟩ := hb
 refine GoO.effC (ef_call Z (Ql _) (Qk _ _ _ _ _ Qp (Ql _)) (slices_IndexFunc_Arc_flow_piece_c1_spec n.as x5 e18) (Qt (Qo _ _) (Qt (Lend.fn (Qt (Lend.box (ds := [.v (.int .i64 x5)]) Qy Z (by decide) ⟨Qq, Z⟩ (Qt (Qo _ _) (Jj)) ⟨Qq, Z⟩ Z) (Jj))) (Jj))) Z (slices_IndexFunc_Arc_flow_piece_c1_I (r17))) (fun rr HH hp => ?_)
 obtain ⟨rfl, rfl⟩ := hp
 refine Qa (Qh Z Z) (Qm (Qd (Qi ?_)))
 have hb := bind_l H; clear H
 obtain ⟨q22, hl32, HK20⟩ := hb
 refine GoC.blockJ [(1, slD left), (3, .ptr β1 4 0 0), (5, .ptr β2 1 0 0), (6, .ptr β3 2 0 0), (8, .own β6 1 0 l7.length), (9, .v (.map (some β4.b)))] [.one β2 3 1 (st1 (nth [.v (.int .i64 x5)])), .one β6 3 1 (row l7), .mp β4 mm8, .one β3 115 2 (st1 (nth [.v (.int .i64 0), .v (.slice none 0 0)])), .one β1 35 4 (st1 (nth [.v (.int .i64 n.n), .v (.int .i64 n.s), .v (.int .i64 n.t), slD n.as]))] (fun v h => ∃ (x23 : Int), q22 = .go x23 ∧ v = [(10, .v (.int .i64 x23))] ∧ h = []) ?_ ?_
 refine GoC.loopJ [(1, _), (3, _), (5, _), (6, _), (8, _), (9, _)] [.one β2 3 1 (st1 (nth [.v (.int .i64 x5)])), .one β6 3 1 (row l7), .mp β4 mm8, .one β3 115 2 (st1 (nth [.v (.int .i64 0), .v (.slice none 0 0)])), .one β1 35 4 (st1 (nth [.v (.int .i64 n.n), .v (.int .i64 n.s), .v (.int .i64 n.t), slD n.as]))] (fun mQ v h => ∃ (x19 : Int), loopC (flow_piece_B2 n left x5) mQ x19 = some q22 ∧ v = [(10, .v (.int .i64 x19))] ∧ h = []) 1000000 ⟨_, hl32, Z, Z⟩ (Qe Z (Qe Z (Qe Z (Qe Z (Qe Z (Qe Z (Qe Z (Jc)))))))) (Qn _ _ _ _ _ Qp (Jh ⟨Qq, Qb _⟩) (Qn _ _ _ _ _ Qp (Qu _) (Qn _ _ _ _ _ Qp (Qu _) (Qn _ _ _ _ _ Qp (Jh ⟨⟨Qq, Qb _⟩, Qb _⟩) (Qn _ _ _ _ _ Qp (Jh ⟨⟨⟨⟨Qq, Qb _⟩, Qb _⟩, Qb _⟩, Qb _⟩) (Jg _)))))) ?_
 rintro m24 v h ⟨x19, hF21, rfl, rfl⟩
 obtain ⟨m24', rfl⟩ | rfl : (∃ x, m24 = x + 1) ∨ m24 = 0 := by cases m24 <;> simp
 case inr => cases hF21
 have hb := bind_l hF21; clear hF21
 obtain ⟨qrm24, H, hF21⟩ := hb
 have hb := bind_l H; clear H
 obtain ⟨q26, H, HK25⟩ := hb
 refine GoC.seqJ [(1, slD left), (3, .ptr β1 4 0 0), (5, .ptr β2 1 0 0), (6, .ptr β3 2 0 0), (8, .own β6 1 0 l7.length), (9, .v (.map (some β4.b))), (10, .v (.int .i64 x19))] [.one β2 3 1 (st1 (nth [.v (.int .i64 x5)])), .one β6 3 1 (row l7), .mp β4 mm8, .one β3 115 2 (st1 (nth [.v (.int .i64 0), .v (.slice none 0 0)])), .one β1 35 4 (st1 (nth [.v (.int .i64 n.n), .v (.int .i64 n.s), .v (.int .i64 n.t), slD n.as]))] (fun v h => q26 = .go () ∧ v = [] ∧ h = []) ?_ ?_
 refine Qi (GoC.drawA (.q 0 (.q 1 (.q 2 (.q 3 (.q 4 (.q 5 (.q 6 (.q 7 (.q 8 (.q 9 (.q 10 (.q 11 (.q 12 (.q 13 (.q 14 (.done)))))))))))))))) follows (by kernel_rfl) ?_)
 iterate 2 refine Qx Z (Qj Z Z) ?_
 have c27 := ck_l H; replace H := ck_r H
 refine Qx Z (ps_indexAddrR Z Z c27 Z) (Qx Z (ps_loadR Z (idx_lt c27) Z Z) (Qx Z (ps_eql Z Z Z) (Qx Z (Qj Z Z) (GoP.decideD 29 Z (fun h28 => ?_) (fun h28 => ?_)))))
 replace H := ite_t h28 H
 iterate 8 refine Jp Z Z Z Z Z ?_
 refine Qx Z (ps_pickT Z Z Z) (GoP.done (Qd (GoC.condT Z (Ji ?_))))
 obtain rfl := Qg H
 exact GoK.meet ⟨Z, Z, Z⟩ (Qe Z (Qe Z (Qe Z (Qe Z (Qe Z (Qe Z (Qe Z (Jc)))))))) (Qn _ _ _ _ _ Qp (Jh ⟨Qq, Qb _⟩) (Qn _ _ _ _ _ Qp (Qu _) (Qn _ _ _ _ _ Qp (Qu _) (Qn _ _ _ _ _ Qp (Jh ⟨⟨Qq, Qb _⟩, Qb _⟩) (Qn _ _ _ _ _ Qp (Jh ⟨⟨⟨⟨Qq, Qb _⟩, Qb _⟩, Qb _⟩, Qb _⟩) (Jg _))))))
 replace H := ite_f h28 H
 refine GoP.qT Z Z Z Z (Qr Z Z) (GoP.qT Z Z Z Z (Jd Z At.p4 At.p4 Qf Z Z) (GoP.qT Z Z Z Z (Qj Z Z) ?_))
 have c29 := ck_l H; replace H := ck_r H
 refine GoP.qT Z Z Z Z (ps_indexAddrR Z Z c29 Z) (GoP.qT Z Z Z Z (ps_fieldAddrR Z Z) (GoP.qT Z Z Z Z (ps_loadR Z (idx_lt c29) Z Z) (GoP.qT Z Z Z Z (Jd Z Qy Qy Qf Z Z) (GoP.qT Z Z Z Z (ps_neq Z Z Z) (Qx Z (ps_pickF Z Z Z) ?_)))))
 refine GoP.done (Qd (Jf Z (fun h30 => ?_) (fun h30 => ?_)))
 replace H := ite_t h30 H
 refine Ji ?_
 obtain rfl := Qg H
 exact GoK.meet ⟨Z, Z, Z⟩ (Qe Z (Qe Z (Qe Z (Qe Z (Qe Z (Qe Z (Qe Z (Jc)))))))) (Qn _ _ _ _ _ Qp (Jh ⟨Qq, Qb _⟩) (Qn _ _ _ _ _ Qp (Qu _) (Qn _ _ _ _ _ Qp (Qu _) (Qn _ _ _ _ _ Qp (Jh ⟨⟨Qq, Qb _⟩, Qb _⟩) (Qn _ _ _ _ _ Qp (Jh ⟨⟨⟨⟨Qq, Qb _⟩, Qb _⟩, Qb _⟩, Qb _⟩) (Jg _))))))
 replace H := ite_f h30 H
 refine GoC.exit Z ?_
 obtain rfl := Qg H
 obtain rfl := Qg HK25
 obtain rfl := Qg hF21
 exact GoK.meet ⟨_, Z, Z, Z⟩ (Qe Z (Qe Z (Qe Z (Qe Z (Qe Z (Qe Z (Qe Z (Jc)))))))) (Qn _ _ _ _ _ Qp (Jh ⟨Qq, Qb _⟩) (Qn _ _ _ _ _ Qp (Qu _) (Qn _ _ _ _ _ Qp (Qu _) (Qn _ _ _ _ _ Qp (Jh ⟨⟨Qq, Qb _⟩, Qb _⟩) (Qn _ _ _ _ _ Qp (Jh ⟨⟨⟨⟨Qq, Qb _⟩, Qb _⟩, Qb _⟩, Qb _⟩) (Jg _))))))
 rintro v h ⟨rfl, rfl, rfl⟩
 have H := HK25; clear HK25
 refine GoC.block (Qc (Qa (Qj Z Z) ?_))
 have c31 := ck_l H; replace H := ck_r H
 refine Qa (ps_add Z Z Z c31) (Qa (Qh Z Z) (Qm (GoK.blk ?_)))
 obtain rfl := Qg H
 exact GoK.againJ m24' (by omega) ⟨_, hF21, Z, Z⟩ (Qe Z (Qe Z (Qe Z (Qe Z (Qe Z (Qe Z (Qe Z (Jc)))))))) (Qn _ _ _ _ _ Qp (Jh ⟨Qq, Qb _⟩) (Qn _ _ _ _ _ Qp (Qu _) (Qn _ _ _ _ _ Qp (Qu _) (Qn _ _ _ _ _ Qp (Jh ⟨⟨Qq, Qb _⟩, Qb _⟩) (Qn _ _ _ _ _ Qp (Jh ⟨⟨⟨⟨Qq, Qb _⟩, Qb _⟩, Qb _⟩, Qb _⟩) (Jg _))))))
 rintro v h ⟨x23, rfl, rfl, rfl⟩
 have H := HK20; clear HK20
 refine Qd (Qi (Qc ?_))
 iterate 2 refine Qa (Qj Z Z) ?_
 refine Jm (ef_buildSlice (row ([x23] : List Int)) Z (Jl _ _ _ _ _ _ _ _ ⟨Z, Z⟩ (Part.one _ Z Z) Z Z (Parts.nil _)) Z Z Z Z) (fun β33 => ?_)
 have c35 := ck_l H; replace H := ck_r H
 refine Jm (ef_append Z Z Rem.p2 (Src.own Qy (by first | omega | (simp only [szl]; omega) | (simp only [szl]; done))) (cat_row (α := Int) (by first|rfl|omega|(simp only[szl]<;>first|rfl|omega)) (by first|rfl|omega|(simp only[szl]<;>first|rfl|omega)) (fun _ _ _ _ => Z)) (by first | omega | (simp only [szl]; omega) | (simp only [szl]; done)) (app_le c35 Z) Z Z Z) (fun β34 => ?_)
 refine Qa (Qh Z Z) (Qm (Qd (Qi (Qc (Qa (Qr Z Z) (Qa (Jd Z At.p5 At.p5 Qf Z Z) (Qa (Qj Z Z) ?_)))))))
 have c36 := ck_l H; replace H := ck_r H
 refine Qa (ps_indexAddrR Z Z c36 Z) (Qa (ps_fieldAddrR Z Z) (Qa (ps_loadR Z (idx_lt c36) Z Z) (GoO.eff1 (ef_store Z Z Z At.p2 upd_st1 Qf Z) (Qm (Qd (Qi (Qi (Qc (Qa (Qj Z Z) ?_)))))))))
 refine Qa (Jd Z At.p2 At.p2 Qf Z Z) (GoO.eff1 (ef_lookup Z Z At.p3 Z) (Qa (Qj Z Z) ?_))
 iterate 2 refine Qa (Jb Z Z Z) ?_
 iterate 2 refine Qa (Qh Z Z) ?_
 refine Qm (Qd (Qi (Qc (Qa (Qj Z Z) (Qm (Qd (GoC.cond Z (fun h37 => ?_) (fun h37 => ?_))))))))
 replace H := itb_t h37 H
 refine Qi (Qc ?_)
 iterate 3 refine Qa (Qj Z Z) ?_
 have c38 := ck_l H; replace H := ck_r H
 have c39 := ck_l H; replace H := ck_r H
 refine Qa (ps_slice Z (Bd.int _ _ _ _ Z c38) (Bd.no _) c39 (Nat.le_refl _) Z) (GoO.le (Le.shift Qy (by have := c39; first | omega | (simp only [szl]; omega) | (simp only [szl, eldI]; omega))) ?_)
 refine GoO.le (Le.reH Qy (HLe.part (xs := (l7 ++ ([x23] : List Int))) (r := (((mget mm8 ((n.as.getD x23.toNat El.d).t)).getD 0).toNat) + 0) (len := (l7.length + 1) - ((mget mm8 ((n.as.getD x23.toNat El.d).t)).getD 0).toNat) (by have := c39; first | omega | (simp only [szl]; omega)))) ?_
 generalize (⟨β34.b, β34.o + ((((mget mm8 ((n.as.getD x23.toNat El.d).t)).getD 0).toNat) + 0) * 1, β34.s - ((((mget mm8 ((n.as.getD x23.toNat El.d).t)).getD 0).toNat) + 0)⟩ : BK) = β40
 have hb := bind_l H; clear H
 obtain ⟨r41, e43, H⟩ := hb
 refine GoO.effC (ef_call Z (Ql _) (Qk _ _ _ _ _ Qp (Ql _)) (flow_amount_spec left (subl (l7 ++ ([x23] : List Int)) (((mget mm8 ((n.as.getD x23.toNat El.d).t)).getD 0).toNat) ((l7.length + 1) - ((mget mm8 ((n.as.getD x23.toNat El.d).t)).getD 0).toNat)) e43) (Qt (Qo _ _) (Qt (Lend.all' Qy (by first|rfl|omega|(simp only[szl]<;>first|rfl|omega)) Z) (Jj))) Z (flow_amount_I (r41))) (fun rr HH hp => ?_)
 obtain ⟨β42, rfl, rfl⟩ := hp
 refine GoO.eff1 (ef_storeAg Z Z At.p5 upd_whole Qf Z) (Qa (Qh Z Z) (Qm (Qd ?_)))
 obtain rfl := Qg H
 obtain rfl := Qg hF10
 obtain rfl := Qg HK9
 exact Ja (ds := [.ag 2 (nth [.v (.int .i64 r41.amount), .own β42 1 0 r41.arcs.length]), .v (.bool true)]) Try.results68 (Qs (ResD.le (ResD.cellAg Z At.p5 Qf Z) (by exact DLe.ag ⟨⟨Qq, Qb _⟩, Qb _⟩)) (Qs (Qw Z) (Qz))) (Qk _ _ _ _ _ Qp (Ql _)) ⟨β42, Z, Z⟩
 replace H := itb_f h37 H
 refine Ji (Qd (Qc (Qa (Qj Z Z) (Qa (Jd Z At.p2 At.p2 Qf Z Z) (Qa (Qj Z Z) (Qa (ps_len Z (by constructor) Z) ?_))))))
 refine GoO.lenLe (n := (l7.length + 1)) (x := .tmp 65) Z (by constructor) own_lenLe (fun ml44 => ?_)
 refine GoO.eff1 (ef_mapSet Z Z Z At.p3) (Qm (GoK.blk ?_))
 obtain rfl := Qg H
 exact GoK.againJ m15' (by omega) ⟨_, _, _, β34, hF10, Z, Z⟩ (Qe Z (Jo Z (Jq (by first|rfl|omega|(simp only [row_len, gridC_len, rowO_len, List.length_append, List.length_cons, List.length_nil] <;>first|rfl|omega))) (Qe Z (Qe Z (Qe Z (Qe Z (Jc))))))) (Qn _ _ _ _ _ Rem.p2 (Jh ⟨Qq, Qb _⟩) (Qn _ _ _ _ _ Qp (Qu _) (Qn _ _ _ _ _ Jk (Qu _) (Qn _ _ _ _ _ Jk (Jh ⟨⟨Qq, Qb _⟩, Qb _⟩) (Qn _ _ _ _ _ Jk (Jh ⟨⟨⟨⟨Qq, Qb _⟩, Qb _⟩, Qb _⟩, Qb _⟩) (Jg _))))))
 replace H := ite_f h16 H
 refine GoC.exit Z ?_
 obtain rfl := Qg H
 obtain rfl := Qg hF10
 exact GoK.meet ⟨_, _, _, β6, Z, Z, Z⟩ (Jo Z (Jq (by first|rfl|omega|(simp only [row_len, gridC_len, rowO_len] <;>first|rfl|omega))) (Qe Z (Qe Z (Jc)))) (Qn _ _ _ _ _ Qp (Jh ⟨Qq, Qb _⟩) (Qn _ _ _ _ _ Qp (Qu _) (Qn _ _ _ _ _ Qp (Qu _) (Qn _ _ _ _ _ Qp (Jh ⟨⟨Qq, Qb _⟩, Qb _⟩) (Qn _ _ _ _ _ Qp (Jh ⟨⟨⟨⟨Qq, Qb _⟩, Qb _⟩, Qb _⟩, Qb _⟩) (Jg _))))))
 rintro v h ⟨x12, l13, mm14, β6, rfl, rfl, rfl⟩
 have H := HK9; clear HK9
 refine Qd (Qi (Qc ?_))
 iterate 2 refine Qa (Qj Z Z) ?_
 have hb := bind_l H; clear H
 obtain ⟨r46, e48, H⟩ := hb
 refine GoO.effC (ef_call Z (Ql _) (Qk _ _ _ _ _ Jk (Ql _)) (flow_amount_spec left l13 e48) (Qt (Qo _ _) (Qt (Lend.all' Qy (by first|rfl|omega|(simp only[szl]<;>first|rfl|omega)) Z) (Jj))) Z (flow_amount_I (r46))) (fun rr HH hp => ?_)
 obtain ⟨β47, rfl, rfl⟩ := hp
 refine GoO.eff1 (ef_storeAg Z Z At.p4 upd_whole Qf Z) (Qa (Qh Z Z) (Qm (Qd ?_)))
 obtain rfl := Qg H
 exact Ja (ds := [.ag 2 (nth [.v (.int .i64 r46.amount), .own β47 1 0 r46.arcs.length]), .v (.bool false)]) Try.results68 (Qs (ResD.le (ResD.cellAg Z At.p4 Qf Z) (by exact DLe.ag ⟨⟨Qq, Qb _⟩, Qb _⟩)) (Qs (Qw Z) (Qz))) (Qk _ _ _ _ _ Qp (Ql _)) ⟨β47, Z, Z⟩
theorem flow_take_I (out : (List Int)) (βleft : BK) : IndepP (flow_take_P out βleft) := IndepP.of (by rintro _ _ ⟨rfl, rfl⟩; exact ⟨inferInstance, inferInstance⟩)
theorem flow_take_spec (left : (List Int)) (p : Piece) (βleft : BK) {out : (List Int)} (H : flow_take_F left p = some out) : Does Try.prog 69 [.own βleft 1 0 left.length, .ag 2 (nth [.v (.int .i64 p.amount), slD p.arcs])] [.one βleft 3 1 (row left)] (flow_take_P out βleft) := by
 unfold flow_take_F at H
 refine Does.intro Try.func69 Z Try.ntmps69 Z fun w0 I0 tb0 => ?_
 refine Qi (Qc (Jm (ef_boxAg Z Z) (fun β1 => ?_)))
 refine Qm (Qd (Qi (Qc (Qa (Qr Z Z) (Qa (Jd Z Qy Qy Qf Z Z) (Qa (ps_len Z (by constructor) Z) ?_))))))
 refine GoO.lenLe (n := p.arcs.length) (x := .tmp 7) Z (by constructor) sl_lenLe (fun ml2 => ?_)
 refine Qa (Qj Z Z) (Qm (Qd ?_))
 have hb := bind_l H; clear H
 obtain ⟨l7, hl12, HK4⟩ := hb
 refine GoC.blockJ [] [.one β1 115 2 (st1 (nth [.v (.int .i64 p.amount), slD p.arcs]))] (fun v h => v = [] ∧ h = [.one βleft 3 1 (row l7)]) ?_ ?_
 refine GoC.loopJ [(3, _), (7, _), (8, _)] [.one β1 115 2 (st1 (nth [.v (.int .i64 p.amount), slD p.arcs]))] (fun mQ v h => ∃ (k8 : Nat) (l3 : (List Int)), (k8 + mQ = p.arcs.length ∧ forN (flow_take_B1 p) mQ k8 l3 = some l7) ∧ v = [(9, .v (.int .i64 ((k8 : Nat) : Int))), (0, .own βleft 1 0 l3.length)] ∧ h = [.one βleft 3 1 (row l3)]) p.arcs.length ⟨_, _, ⟨by omega, hl12⟩, Z, Z⟩ (Qe Z (Jo Z (Jq (by first|rfl|omega|(simp only [row_len, gridC_len, rowO_len] <;>first|rfl|omega))) (Qe Z (Qe Z (Qe Z (Jc)))))) (Qn _ _ _ _ _ Jk (Qu _) (Qn _ _ _ _ _ Qp (Jh ⟨⟨Qq, Qb _⟩, Qb _⟩) (Jg _))) ?_
 rintro m9 v h ⟨k8, l3, ⟨hkk8, hF5⟩, rfl, rfl⟩
 refine Qi (Qc (Qa (ps_lss Z Z Z) (Qm (Qd (Qi (Jf Z (fun (hk8 : (k8 : Int) < ((p.arcs.length : Nat) : Int)) => ?_) (fun (hk8 : ¬ (k8 : Int) < ((p.arcs.length : Nat) : Int)) => ?_)))))))
 obtain ⟨m9', rfl⟩ : ∃ x, m9 = x + 1 := ⟨m9 - 1, by omega⟩
 have hb := bind_l hF5; clear hF5
 obtain ⟨qrm9, H, hF5⟩ := hb
 have hnk8 : k8 < p.arcs.length := by omega
 have hIk8 : InI ((k8 : Int) + 1) := inI_len hk8 ml2
 refine Ji (Qd (Qi (GoC.block (Qi (Qc (Qa (Jn Z Z hnk8 Z) (Qa (ps_loadR Z hnk8 Z Z) (Qa (Qh Z Z) (Qm (Qd (GoC.drawP (.q 0 (.q 1 (.q 2 (.q 4 (.q 5 (.one 3 (.q 6 (.q 7 (.one 8 (.done)))))))))) [(3, _, _, _)] follows (by kernel_rfl) (Qk _ _ _ _ _ Jk (Ql _)) ?_)))))))))))
 iterate 2 refine Qx Z (Qj Z Z) ?_
 have c10 := ck_l H; replace H := ck_r H
 refine Qx Z (ps_indexAddr0 Z Z c10 Z) (Qx Z (Qr Z Z) (Qx Z (Jd Z Js Qy Qf Z Z) (GoP.oneN Z (Jd Z Qy Qy (idx_lt c10) Z Z) (Qk _ _ _ _ _ Jk (Ql _)) ?_)))
 have c11 := ck_l H; replace H := ck_r H
 refine Qx Z (ps_sub Z Z Z c11) (Qx Z (ps_indexAddr0 Z Z c10 Z) (GoP.one1 Z Qq (ef_store Z Z Z Qy (upd_row1 (v := ((l3.getD ((p.arcs.getD k8 (0 : Int)).toNat) (0 : Int)) - p.amount)) Z) (idx_lt c10) Z) (Qk _ _ _ _ _ Qp (Qk _ _ _ _ _ Qp (Ql _))) ?_))
 refine GoP.done (GoK.blk (Qd (Qc (Qa (ps_add Z Z Z hIk8) (Qa (Qj Z Z) (Qm ?_))))))
 obtain rfl := Qg H
 exact GoK.againJ m9' (by omega) ⟨_, _, ⟨by omega, hF5⟩, Z, Z⟩ (Qe Z (Jo Z (Jq (by first|rfl|omega|(simp only [row_len, gridC_len, rowO_len, List.length_set] <;>first|rfl|omega))) (Qe Z (Qe Z (Qe Z (Jc)))))) (Qn _ _ _ _ _ Qp (Qu _) (Qn _ _ _ _ _ Qp (Jh ⟨⟨Qq, Qb _⟩, Qb _⟩) (Jg _)))
 obtain rfl : m9 = 0 := by omega
 refine GoC.exit Z ?_
 cases hF5
 exact GoK.meet ⟨Z, Z⟩ (Jc) (Qn _ _ _ _ _ Qp (Qu _) (Qn _ _ _ _ _ Qp (Jh ⟨⟨Qq, Qb _⟩, Qb _⟩) (Jg _)))
 rintro v h ⟨rfl, rfl⟩
 have H := HK4; clear HK4
 obtain rfl := Qg H
 exact GoK.retL (ds := []) Try.results69 (Qz) (Qk _ _ _ _ _ Qp (Ql _)) ⟨Z, Z⟩
theorem flow_Split_spec (n : Net) (f : (List Int)) {out : (List Piece) × (List Piece) × Int} (H : flow_Split_F n f = some out) : Does Try.prog 56 [.ag 4 (nth [.v (.int .i64 n.n), .v (.int .i64 n.s), .v (.int .i64 n.t), slD n.as]), slD f] [] (flow_Split_P out) := by
 unfold flow_Split_F at H
 refine Does.intro Try.func56 Z Try.ntmps56 Z fun w0 I0 tb0 => ?_
 refine Qi (Qc (Jm (ef_boxAg Z Z) (fun β1 => ?_)))
 iterate 3 refine Qa (Qh Z Z) ?_
 refine Qm (Qd (Qi (Qc (Qa (Jr Z Qy Qy Qf Z Z) (Qa (Qj Z Z) ?_)))))
 have hb := bind_l H; clear H
 obtain ⟨⟨r2, r3⟩, e4, H⟩ := hb
 refine GoO.effC (ef_call Z (Ql _) (Ql _) (flow_Value_spec n f e4) (Qt (Lend.agA ⟨⟨⟨⟨Qq, Qo _ _⟩, Qo _ _⟩, Qo _ _⟩, Qo _ _⟩) (Qt (Qo _ _) (Jj))) Z (flow_Value_I (r2, r3))) (fun rr HH hp => ?_)
 obtain ⟨rfl, rfl⟩ := hp
 refine Qa (Qj Z Z) ?_
 iterate 2 refine Qa (Jb Z Z Z) ?_
 iterate 2 refine Qa (Qh Z Z) ?_
 refine Qm (Qd (Qi (Qi (Qc (Qa (Qj Z Z) (Qa (ps_neq Z Z Z) (Qm (Qd (Jf Z (fun h5 => ?_) (fun h5 => ?_))))))))))
 replace H := ite_t h5 H
 refine Qi (Qc (Qa (Qj Z Z) ?_))
 iterate 3 refine Qa (Qh Z Z) ?_
 refine Qm (Qd ?_)
 obtain rfl := Qg H
 iterate 2 refine GoC.le (le_row0 115 2 (row ([] : List Piece)) Z) ?_
 exact Ja (ds := [.own ⟨0, 0, 0⟩ 2 0 0, .own ⟨0, 0, 0⟩ 2 0 0, .v (.int .i64 r3)]) Try.results56 (Qs (ResD.le (Qw Z) (by exact DLe.nilOwn)) (Qs (ResD.le (Qw Z) (by exact DLe.nilOwn)) (Qs (Qw Z) (Qz)))) (Qk _ _ _ _ _ Jk (Qk _ _ _ _ _ Qp (Ql _))) ⟨⟨0, 0, 0⟩, ⟨0, 0, 0⟩, Z, Z⟩
 replace H := ite_f h5 H
 refine Ji (Qd (Qi (Qi (Qc (Qa (Qj Z Z) (Qa (ps_lss Z Z Z) (Qm (Qd (Jf Z (fun h6 => ?_) (fun h6 => ?_))))))))))
 replace H := ite_t h6 H
 refine Qi (Qc ?_)
 iterate 3 refine Qa (Qh Z Z) ?_
 refine Qm (Qd ?_)
 obtain rfl := Qg H
 iterate 2 refine GoC.le (le_row0 115 2 (row ([] : List Piece)) Z) ?_
 exact Ja (ds := [.own ⟨0, 0, 0⟩ 2 0 0, .own ⟨0, 0, 0⟩ 2 0 0, .v (.int .i64 9)]) Try.results56 (Qs (ResD.le (Qw Z) (by exact DLe.nilOwn)) (Qs (ResD.le (Qw Z) (by exact DLe.nilOwn)) (Qs (Qw Z) (Qz)))) (Qk _ _ _ _ _ Jk (Qk _ _ _ _ _ Qp (Ql _))) ⟨⟨0, 0, 0⟩, ⟨0, 0, 0⟩, Z, Z⟩
 replace H := ite_f h6 H
 refine Ji (Qd (Qi (Qc (Qa (Qj Z Z) ?_))))
 have hb := bind_l H; clear H
 obtain ⟨r7, e9, H⟩ := hb
 refine GoO.effC (ef_call Z (Ql _) (Ql _) (slices_Clone_int_spec f e9) (Qt (Qo _ _) (Jj)) Z (slices_Clone_int_I (r7))) (fun rr HH hp => ?_)
 obtain ⟨β8, rfl, rfl⟩ := hp
 refine Qa (Qh Z Z) (Qm (Qd (Qi (Qc ?_))))
 iterate 2 refine Qa (Qh Z Z) ?_
 refine Qm (Qd (Qi ?_))
 have hb := bind_l H; clear H
 obtain ⟨q18, hl49, HK16⟩ := hb
 refine GoC.blockJ [(2, .ptr β1 4 0 0)] [.one β1 35 4 (st1 (nth [.v (.int .i64 n.n), .v (.int .i64 n.s), .v (.int .i64 n.t), slD n.as]))] (fun v h => ∃ (x19 : Int) (l20 : (List Int)) (l21 : (List Piece)) (l22 : (List Piece)) (β12 : BK) (β14 : BK), q18 = .go (x19, l20, l21, l22) ∧ v = [(9, .own β8 1 0 l20.length), (10, .own β12 2 0 l21.length), (11, .own β14 2 0 l22.length)] ∧ h = [.one β8 3 1 (row l20), .one β12 115 2 (row l21), .one β14 115 2 (row l22)]) ?_ ?_
 refine GoC.loopJ [(2, _)] [.one β1 35 4 (st1 (nth [.v (.int .i64 n.n), .v (.int .i64 n.s), .v (.int .i64 n.t), slD n.as]))] (fun mQ v h => ∃ (x10 : Int) (l11 : (List Int)) (l13 : (List Piece)) (l15 : (List Piece)) (β12 : BK) (β14 : BK), loopC (flow_Split_B1 n) mQ (x10, l11, l13, l15) = some q18 ∧ v = [(7, .v (.int .i64 x10)), (9, .own β8 1 0 l11.length), (10, .own β12 2 0 l13.length), (11, .own β14 2 0 l15.length)] ∧ h = [.one β8 3 1 (row l11), .one β12 115 2 (row l13), .one β14 115 2 (row l15)]) 1000000 ⟨_, _, _, _, ⟨0, 0, 0⟩, ⟨0, 0, 0⟩, hl49, Z, Z⟩ (Qe Z (Jo Z (Jq (by first|rfl|omega|(simp only [row_len, gridC_len, rowO_len] <;>first|rfl|omega))) (Jo Z (DLe.nilOwn) (Jo Z (DLe.nilOwn) (Qe Z (Jc)))))) (Qn _ _ _ _ _ Qp (Qu _) (TkD.no _ _ _ _ _ Z (TkD.no _ _ _ _ _ Z (Qn _ _ _ _ _ Qp (Jh ⟨⟨⟨⟨Qq, Qb _⟩, Qb _⟩, Qb _⟩, Qb _⟩) (Jg _))))) ?_
 rintro m23 v h ⟨x10, l11, l13, l15, β12, β14, hF17, rfl, rfl⟩
 obtain ⟨m23', rfl⟩ | rfl : (∃ x, m23 = x + 1) ∨ m23 = 0 := by cases m23 <;> simp
 case inr => cases hF17
 have hb := bind_l hF17; clear hF17
 obtain ⟨qrm23, H, hF17⟩ := hb
 refine Qi (Qi (Qc (Qa (Qj Z Z) (Qa (ps_gtr Z Z Z) (Qm (Qd (Jf Z (fun h24 => ?_) (fun h24 => ?_))))))))
 replace H := ite_t h24 H
 refine Ji (Qd (GoC.block (Qi (Qc (Qa (Jr Z At.p3 At.p3 Qf Z Z) (Qa (Qj Z Z) (Qa (Qr Z Z) (Qa (Jd Z At.p3 At.p3 Qf Z Z) ?_))))))))
 have hb := bind_l H; clear H
 obtain ⟨⟨r25, r27⟩, e28, H⟩ := hb
 refine GoO.effC (ef_call Z (Ql _) (Qk _ _ _ _ _ Qp (Ql _)) (flow_piece_spec n l11 n.s e28) (Qt (Lend.agA ⟨⟨⟨⟨Qq, Qo _ _⟩, Qo _ _⟩, Qo _ _⟩, Qo _ _⟩) (Qt (Lend.all' Qy (by first|rfl|omega|(simp only[szl]<;>first|rfl|omega)) Z) (Qt (Qo _ _) (Jj)))) Z (flow_piece_I (r25, r27))) (fun rr HH hp => ?_)
 obtain ⟨β26, rfl, rfl⟩ := hp
 refine Qa (Qj Z Z) ?_
 iterate 2 refine Qa (Jb Z Z Z) ?_
 refine Jm (ef_alloc Z) (fun β29 => ?_)
 refine GoO.eff1 (ef_storeAg Z Z Qy upd_whole Qf Z) (Qa (Qh Z Z) (Qm (Qd ?_)))
 have hb := bind_l H; clear H
 obtain ⟨⟨x30, l32, l34, x35⟩, H, HK36⟩ := hb
 refine GoC.seqJ [(2, .ptr β1 4 0 0), (9, .own β8 1 0 l11.length)] [.one β8 3 1 (row l11), .one β1 35 4 (st1 (nth [.v (.int .i64 n.n), .v (.int .i64 n.s), .v (.int .i64 n.t), slD n.as]))] (fun v h => ∃ (β31 : BK) (β33 : BK), v = [(7, .v (.int .i64 x30)), (10, .own β31 2 0 l32.length), (11, .own β33 2 0 l34.length), (12, .ptr β29 2 0 0)] ∧ h = [.one β31 115 2 (row l32), .one β33 115 2 (row l34), .one β29 115 2 (st1 (nth [.v (.int .i64 x35), slD r25.arcs]))]) ?_ ?_
 refine Qi (Qc (Qa (Qj Z Z) (Qm (Qd (GoC.cond Z (fun h38 => ?_) (fun h38 => ?_))))))
 replace H := itb_t h38 H
 refine Qc (Qa (Qj Z Z) (Qa (Jr Z Qy Qy Qf Z Z) (GoO.freezeB (j := 42) (r' := .ag 2 (nth [.v (.int .i64 r25.amount), slD r25.arcs])) Z Jk (Lend.agA ⟨⟨Qq, Qo _ _⟩, Lend.all' Qy (by first|rfl|omega|(simp only [row_len, gridC_len, rowO_len] <;>first|rfl|omega)) Z⟩) no_fps (g' := nth [.v (.int .i64 r25.amount), slD r25.arcs]) Qy ⟨⟨Qq, Qo _ _⟩, Lend.all' Qy (by first|rfl|omega|(simp only [row_len, gridC_len, rowO_len] <;>first|rfl|omega)) Z⟩ ?_)))
 refine Jm (ef_buildSlice (row ([r25] : List Piece)) Z (Jl _ _ _ _ _ _ _ _ ⟨Z, Z⟩ (Part.ag _ _ Z) Z Z (Parts.nil _)) Z Z Z Z) (fun β39 => ?_)
 have c41 := ck_l H; replace H := ck_r H
 refine Jm (ef_append Z Z Rem.p4 (Src.own Qy (by first | omega | (simp only [szl]; omega) | (simp only [szl]; done))) (cat_row (α := Piece) (by first|rfl|omega|(simp only[szl]<;>first|rfl|omega)) (by first|rfl|omega|(simp only[szl]<;>first|rfl|omega)) (fun _ _ _ _ => Z)) (by first | omega | (simp only [szl]; omega) | (simp only [szl]; done)) (app_le c41 Z) Z Z Z) (fun β40 => ?_)
 refine Qa (Qh Z Z) (Qm ?_)
 cases H
 exact GoK.meet ⟨β12, β40, Z, Z⟩ (Qe Z (Jo Z (Jq (by first|rfl|omega|(simp only [row_len, gridC_len, rowO_len] <;>first|rfl|omega))) (Jo Z (Jq (by first|rfl|omega|(simp only [row_len, gridC_len, rowO_len, List.length_append, List.length_cons, List.length_nil] <;>first|rfl|omega))) (Qe Z (Qe Z (Qe Z (Jc))))))) (Qn _ _ _ _ _ Rem.p4 (Qu _) (Qn _ _ _ _ _ Qp (Qu _) (Qn _ _ _ _ _ Jk (Jh ⟨⟨Qq, Qb _⟩, Qb _⟩) (Qn _ _ _ _ _ Jk (Qu _) (Qn _ _ _ _ _ Jk (Jh ⟨⟨⟨⟨Qq, Qb _⟩, Qb _⟩, Qb _⟩, Qb _⟩) (Jg _))))))
 replace H := itb_f h38 H
 refine Qi (Qc (Qa (Qr Z Z) (Qa (Jd Z Qy Qy Qf Z Z) (Qa (Qj Z Z) (Qa (ps_min Z Z Z) (Qa (Qr Z Z) ?_))))))
 refine GoO.eff1 (ef_store Z Z Z Qy upd_st1 Qf Z) (Qm (Qd (Qi (Qc (Qa (Qj Z Z) (Qa (Jr Z Qy Qy Qf Z Z) (GoO.freezeB (j := 51) (r' := .ag 2 (nth [.v (.int .i64 (min r25.amount x10)), slD r25.arcs])) Z Jk (Lend.agA ⟨⟨Qq, Qo _ _⟩, Lend.all' Qy (by first|rfl|omega|(simp only [row_len, gridC_len, rowO_len] <;>first|rfl|omega)) Z⟩) no_fps (g' := nth [.v (.int .i64 (min r25.amount x10)), slD r25.arcs]) Qy ⟨⟨Qq, Qo _ _⟩, Lend.all' Qy (by first|rfl|omega|(simp only [row_len, gridC_len, rowO_len] <;>first|rfl|omega)) Z⟩ ?_)))))))
 refine Jm (ef_buildSlice (row ([(⟨(min r25.amount x10), r25.arcs⟩ : Piece)] : List Piece)) Z (Jl _ _ _ _ _ _ _ _ ⟨Z, Z⟩ (Part.ag _ _ Z) Z Z (Parts.nil _)) Z Z Z Z) (fun β42 => ?_)
 have c44 := ck_l H; replace H := ck_r H
 refine Jm (ef_append Z Z Rem.p3 (Src.own Qy (by first | omega | (simp only [szl]; omega) | (simp only [szl]; done))) (cat_row (α := Piece) (by first|rfl|omega|(simp only[szl]<;>first|rfl|omega)) (by first|rfl|omega|(simp only[szl]<;>first|rfl|omega)) (fun _ _ _ _ => Z)) (by first | omega | (simp only [szl]; omega) | (simp only [szl]; done)) (app_le c44 Z) Z Z Z) (fun β43 => ?_)
 refine Qa (Qh Z Z) (Qm (Qd (Qc (Qa (Qj Z Z) (Qa (Qr Z Z) (Qa (Jd Z At.p2 At.p2 Qf Z Z) ?_))))))
 have c45 := ck_l H; replace H := ck_r H
 refine Qa (ps_sub Z Z Z c45) (Qa (Qh Z Z) (Qm ?_))
 cases H
 exact GoK.meet ⟨β43, β14, Z, Z⟩ (Qe Z (Jo Z (Jq (by first|rfl|omega|(simp only [row_len, gridC_len, rowO_len, List.length_append, List.length_cons, List.length_nil] <;>first|rfl|omega))) (Jo Z (Jq (by first|rfl|omega|(simp only [row_len, gridC_len, rowO_len] <;>first|rfl|omega))) (Qe Z (Qe Z (Qe Z (Jc))))))) (Qn _ _ _ _ _ Qp (Qu _) (Qn _ _ _ _ _ Rem.p3 (Qu _) (Qn _ _ _ _ _ Jk (Jh ⟨⟨Qq, Qb _⟩, Qb _⟩) (Qn _ _ _ _ _ Jk (Qu _) (Qn _ _ _ _ _ Jk (Jh ⟨⟨⟨⟨Qq, Qb _⟩, Qb _⟩, Qb _⟩, Qb _⟩) (Jg _))))))
 rintro v h ⟨β31, β33, rfl, rfl⟩
 have H := HK36; clear HK36
 refine Qc (Qa (Qj Z Z) (Qa (Jr Z At.p2 At.p2 Qf Z Z) ?_))
 have hb := bind_l H; clear H
 obtain ⟨l46, e47, H⟩ := hb
 have c48 := ck_l H; replace H := ck_r H
 refine GoO.effC (ef_call Z (Qk _ _ _ _ _ Rem.p3 (Ql _)) (Ql _) (flow_take_spec l11 (⟨x35, r25.arcs⟩ : Piece) β8 e47) (Qt (Qo _ _) (Qt (Lend.agA ⟨⟨Qq, Qo _ _⟩, Qo _ _⟩) (Jj))) Z (flow_take_I (l46) β8)) (fun rr HH hp => ?_)
 obtain ⟨rfl, rfl⟩ := hp
 refine Qm (GoK.blk ?_)
 obtain rfl := Qg H
 exact GoK.againJ m23' (by omega) ⟨_, _, _, _, β31, β33, hF17, Z, Z⟩ (Qe Z (Jo Z (Jq (by first|rfl|omega|(simp only [row_len, gridC_len, rowO_len, c48] <;>first|rfl|omega))) (Jo Z (Jq (by first|rfl|omega|(simp only [row_len, gridC_len, rowO_len, c48] <;>first|rfl|omega))) (Jo Z (Jq (by first|rfl|omega|(simp only [row_len, gridC_len, rowO_len, c48] <;>first|rfl|omega))) (Qe Z (Jc)))))) (Qn _ _ _ _ _ Qp (Qu _) (Qn _ _ _ _ _ Qp (Qu _) (Qn _ _ _ _ _ Qp (Qu _) (Qn _ _ _ _ _ Jk (Jh ⟨⟨⟨⟨Qq, Qb _⟩, Qb _⟩, Qb _⟩, Qb _⟩) (Jg _)))))
 replace H := ite_f h24 H
 refine GoC.exit Z ?_
 obtain rfl := Qg H
 obtain rfl := Qg hF17
 exact GoK.meet ⟨_, _, _, _, β12, β14, Z, Z, Z⟩ (Jo Z (Jq (by first|rfl|omega|(simp only [row_len, gridC_len, rowO_len] <;>first|rfl|omega))) (Jo Z (Jq (by first|rfl|omega|(simp only [row_len, gridC_len, rowO_len] <;>first|rfl|omega))) (Jo Z (Jq (by first|rfl|omega|(simp only [row_len, gridC_len, rowO_len] <;>first|rfl|omega))) (Qe Z (Jc))))) (Qn _ _ _ _ _ Qp (Qu _) (Qn _ _ _ _ _ Qp (Qu _) (Qn _ _ _ _ _ Qp (Qu _) (Qn _ _ _ _ _ Qp (Jh ⟨⟨⟨⟨Qq, Qb _⟩, Qb _⟩, Qb _⟩, Qb _⟩) (Jg _)))))
 rintro v h ⟨x19, l20, l21, l22, β12, β14, rfl, rfl, rfl⟩
 have H := HK16; clear HK16
 refine Qd (Qi (Qi (Qc (Qa (Qj Z Z) (Qa (ps_len Z (by constructor) Z) ?_)))))
 refine GoO.lenLe (n := l20.length) (x := .tmp 61) Z (by constructor) own_lenLe (fun ml50 => ?_)
 refine Qa (Qj Z Z) (Qm (Qd ?_))
 have hb := bind_l H; clear H
 obtain ⟨⟨l57, l58⟩, hl87, HK54⟩ := hb
 refine GoC.blockJ [(10, .own β12 2 0 l21.length)] [.one β12 115 2 (row l21), .one β1 35 4 (st1 (nth [.v (.int .i64 n.n), .v (.int .i64 n.s), .v (.int .i64 n.t), slD n.as]))] (fun v h => ∃ (β52 : BK), v = [(11, .own β52 2 0 l58.length)] ∧ h = [.one β8 3 1 (row l57), .one β52 115 2 (row l58)]) ?_ ?_
 refine GoC.loopJ [(2, _), (10, _), (62, _)] [.one β12 115 2 (row l21), .one β1 35 4 (st1 (nth [.v (.int .i64 n.n), .v (.int .i64 n.s), .v (.int .i64 n.t), slD n.as]))] (fun mQ v h => ∃ (k59 : Nat) (l51 : (List Int)) (l53 : (List Piece)) (β52 : BK), (k59 + mQ = l20.length ∧ forN (flow_Split_B2 n f) mQ k59 (l51, l53) = some (l57, l58)) ∧ v = [(63, .v (.int .i64 ((k59 : Nat) : Int))), (9, .own β8 1 0 l51.length), (11, .own β52 2 0 l53.length)] ∧ h = [.one β8 3 1 (row l51), .one β52 115 2 (row l53)]) l20.length ⟨_, _, _, β14, ⟨by omega, hl87⟩, Z, Z⟩ (Qe Z (Jo Z (Jq (by first|rfl|omega|(simp only [row_len, gridC_len, rowO_len] <;>first|rfl|omega))) (Jo Z (Jq (by first|rfl|omega|(simp only [row_len, gridC_len, rowO_len] <;>first|rfl|omega))) (Qe Z (Qe Z (Qe Z (Jc))))))) (Qn _ _ _ _ _ Qp (Qu _) (Qn _ _ _ _ _ Jk (Qu _) (Qn _ _ _ _ _ Qp (Qu _) (Qn _ _ _ _ _ Qp (Jh ⟨⟨⟨⟨Qq, Qb _⟩, Qb _⟩, Qb _⟩, Qb _⟩) (Jg _))))) ?_
 rintro m60 v h ⟨k59, l51, l53, β52, ⟨hkk59, hF55⟩, rfl, rfl⟩
 refine Qi (Qc (Qa (ps_lss Z Z Z) (Qm (Qd (Qi (Jf Z (fun (hk59 : (k59 : Int) < ((l20.length : Nat) : Int)) => ?_) (fun (hk59 : ¬ (k59 : Int) < ((l20.length : Nat) : Int)) => ?_)))))))
 obtain ⟨m60', rfl⟩ : ∃ x, m60 = x + 1 := ⟨m60 - 1, by omega⟩
 have hb := bind_l hF55; clear hF55
 obtain ⟨qrm60, H, hF55⟩ := hb
 have hnk59 : k59 < l20.length := by omega
 have hIk59 : InI ((k59 : Int) + 1) := inI_len hk59 ml50
 refine Ji (Qd (Qi (GoC.block (Qi (Qc (Qa (Qj Z Z) (Qa (Qh Z Z) (Qm (Qd ?_)))))))))
 have hb := bind_l H; clear H
 obtain ⟨q66, hl86, HK64⟩ := hb
 refine GoC.blockJ [(2, .ptr β1 4 0 0), (10, .own β12 2 0 l21.length), (62, .v (.int .i64 ((l20.length : Nat) : Int))), (63, .v (.int .i64 ((k59 : Nat) : Int)))] [.one β12 115 2 (row l21), .one β1 35 4 (st1 (nth [.v (.int .i64 n.n), .v (.int .i64 n.s), .v (.int .i64 n.t), slD n.as]))] (fun v h => ∃ (l67 : (List Int)) (l68 : (List Piece)) (β62 : BK), q66 = .go (l67, l68) ∧ v = [(9, .own β8 1 0 l67.length), (11, .own β62 2 0 l68.length)] ∧ h = [.one β8 3 1 (row l67), .one β62 115 2 (row l68)]) ?_ ?_
 refine GoC.loopJ [(2, _), (10, _), (14, _), (62, _), (63, _)] [.one β12 115 2 (row l21), .one β1 35 4 (st1 (nth [.v (.int .i64 n.n), .v (.int .i64 n.s), .v (.int .i64 n.t), slD n.as]))] (fun mQ v h => ∃ (l61 : (List Int)) (l63 : (List Piece)) (β62 : BK), loopC (flow_Split_B3 n f k59) mQ (l61, l63) = some q66 ∧ v = [(9, .own β8 1 0 l61.length), (11, .own β62 2 0 l63.length)] ∧ h = [.one β8 3 1 (row l61), .one β62 115 2 (row l63)]) 1000000 ⟨_, _, β52, hl86, Z, Z⟩ (Jo Z (Jq (by first|rfl|omega|(simp only [row_len, gridC_len, rowO_len] <;>first|rfl|omega))) (Jo Z (Jq (by first|rfl|omega|(simp only [row_len, gridC_len, rowO_len] <;>first|rfl|omega))) (Qe Z (Qe Z (Qe Z (Qe Z (Qe Z (Jc)))))))) (Qn _ _ _ _ _ Qp (Qu _) (Qn _ _ _ _ _ Qp (Qu _) (Qn _ _ _ _ _ Qp (Qu _) (Qn _ _ _ _ _ Qp (Jh ⟨⟨⟨⟨Qq, Qb _⟩, Qb _⟩, Qb _⟩, Qb _⟩) (Jg _))))) ?_
 rintro m69 v h ⟨l61, l63, β62, hF65, rfl, rfl⟩
 obtain ⟨m69', rfl⟩ | rfl : (∃ x, m69 = x + 1) ∨ m69 = 0 := by cases m69 <;> simp
 case inr => cases hF65
 have hb := bind_l hF65; clear hF65
 obtain ⟨qrm69, H, hF65⟩ := hb
 refine Qi (Qi (Qc ?_))
 iterate 2 refine Qa (Qj Z Z) ?_
 have c70 := ck_l H; replace H := ck_r H
 refine Qa (ps_indexAddr0N Z Z c70 Z) (Qa (Jd Z Qy Qy c70 Z Z) (Qa (ps_gtr Z Z Z) (Qm (Qd (Jf Z (fun h71 => ?_) (fun h71 => ?_))))))
 replace H := ite_t h71 H
 refine Ji (Qd (GoC.block (Qi (GoC.drawA (.q 0 (.q 1 (.q 2 (.q 3 (.q 4 (.q 5 (.q 6 (.q 7 (.q 8 (.q 9 (.q 10 (.q 11 (.two 12 16 (.q 13 (.q 14 (.q 15 (.one 16 (.one 17 (.q 18 (.done))))))) (.one 12 (.q 13 (.q 14 (.q 15 (.one 17 (.q 18 (.done)))))))))))))))))))) follows (by kernel_rfl) ?_))))
 refine Qx Z (Qr Z Z) (Qx Z (Jd Z At.p3 At.p3 Qf Z Z) (Qx Z (Qr Z Z) (Qx Z (Jd Z At.p3 At.p3 Qf Z Z) (Qx Z (ps_build (Jl _ _ _ _ _ _ _ _ FdP.of (Part.one _ Z Z) Z Z (Jl _ _ _ _ _ _ _ _ FdP.of (Part.one _ Z Z) Z Z (Jl _ _ _ _ _ _ _ _ FdP.of (Part.one _ Z Z) Z Z (Jl _ _ _ _ _ _ _ _ FdP.of (Part.one _ Z Z) Z Z (Parts.nil _))))) Z) (Qx Z (Qj Z Z) ?_)))))
 refine Qx Z (Qr Z Z) (Qx Z (Jd Z At.p3 At.p3 Qf Z Z) (Qx Z (Qj Z Z) ?_))
 have c72 := ck_l H; replace H := ck_r H
 refine Qx Z (Jn Z Z c72 Z) (Qx Z (ps_fieldAddrR Z Z) (Qx Z (ps_loadR Z c72 Z Z) ?_))
 have hb := bind_l H; clear H
 obtain ⟨⟨r73, r75⟩, e76, H⟩ := hb
 apply GoP.fork2
 exact Z
 exact Z
 exact Qq
 exact Qq
 exact ef_call Z (Ql _) (Qk _ _ _ _ _ Qp (Ql _)) (flow_piece_spec (⟨n.n, (-1), (-1), n.as⟩ : Net) l61 ((n.as.getD k59 El.d).f) e76) (Qt (Lend.agA ⟨⟨⟨⟨Qq, Qo _ _⟩, Qo _ _⟩, Qo _ _⟩, Qo _ _⟩) (Qt (Lend.all' Qy (by first|rfl|omega|(simp only[szl]<;>first|rfl|omega)) Z) (Qt (Qo _ _) (Jj)))) Z (flow_piece_I (r73, r75))
 exact ef_alloc Z
 exact (Qk _ _ _ _ _ Qp (Qk _ _ _ _ _ Qp (Qk _ _ _ _ _ Qp (Qk _ _ _ _ _ Qp (Ql _)))))
 exact (Qk _ _ _ _ _ Qp (Qk _ _ _ _ _ Qp (Qk _ _ _ _ _ Qp (Qk _ _ _ _ _ Qp (Ql _)))))
 intro hQ
 rintro _ ⟨_, _, hp, rfl⟩
 obtain ⟨β74, rfl, rfl⟩ := hp
 refine Qx Z (Qj Z Z) ?_
 iterate 2 refine Qx Z (Jb Z Z Z) ?_
 refine GoP.oneB Z Qq (ef_alloc Z) (Qk _ _ _ _ _ Jk (Qk _ _ _ _ _ Jk (Qk _ _ _ _ _ Jk (Qk _ _ _ _ _ Jk (Ql _))))) (fun β79 => ?_)
 refine GoP.one1 Z Qq (ef_storeAg Z Z Qy upd_whole Qf Z) (Qk _ _ _ _ _ Qp (Qk _ _ _ _ _ Jk (Qk _ _ _ _ _ Jk (Qk _ _ _ _ _ Jk (Qk _ _ _ _ _ Jk (Ql _)))))) (Qx Z (Qh Z Z) ?_)
 exact GoP.done (hQ β74 β79)
 intro hQ
 rintro _ ⟨β78, rfl⟩
 refine GoP.oneC Z Qq (ef_call Z (Ql _) (Qk _ _ _ _ _ Jk (Ql _)) (flow_piece_spec (⟨n.n, (-1), (-1), n.as⟩ : Net) l61 ((n.as.getD k59 El.d).f) e76) (Qt (Lend.agA ⟨⟨⟨⟨Qq, Qo _ _⟩, Qo _ _⟩, Qo _ _⟩, Qo _ _⟩) (Qt (Lend.all' Qy (by first|rfl|omega|(simp only[szl]<;>first|rfl|omega)) Z) (Qt (Qo _ _) (Jj)))) Z (flow_piece_I (r73, r75))) (Qk _ _ _ _ _ Jk (Qk _ _ _ _ _ Jk (Qk _ _ _ _ _ Jk (Qk _ _ _ _ _ Jk (Ql _))))) (fun rr HH hp => ?_)
 obtain ⟨β74, rfl, rfl⟩ := hp
 refine Qx Z (Qj Z Z) ?_
 iterate 2 refine Qx Z (Jb Z Z Z) ?_
 refine GoP.one1 Z Qq (ef_storeAg Z Z Js upd_whole Qf Z) (Qk _ _ _ _ _ Jk (Qk _ _ _ _ _ Jk (Qk _ _ _ _ _ Jk (Qk _ _ _ _ _ Jk (Qk _ _ _ _ _ Jk (Ql _)))))) (Qx Z (Qh Z Z) (GoP.done (GoK.le ?_ (hQ β74 β78))))
 refine Le.ofDW ?_ (Qn _ _ _ _ _ Jk (Qu _) (Qn _ _ _ _ _ Qp (Qu _) (Qn _ _ _ _ _ Qp (Qu _) (Qn _ _ _ _ _ Qp (Qu _) (Qn _ _ _ _ _ Qp (Qu _) (Qn _ _ _ _ _ Qp (Qu _) (Jg _)))))))
 repeat (first | exact EnvLeW.nil | refine EnvLeW.cons rfl ?_ | refine EnvLeW.skip rfl ?_)
 intro β74 β79
 refine Qd (Qi (Qc (Qa (Qj Z Z) (Qa (Jr Z Qy Qy Qf Z Z) ?_))))
 have hb := bind_l H; clear H
 obtain ⟨l80, e81, H⟩ := hb
 have c82 := ck_l H; replace H := ck_r H
 refine GoO.effC (ef_call Z (Qk _ _ _ _ _ Rem.p2 (Ql _)) (Qk _ _ _ _ _ Jk (Ql _)) (flow_take_spec l61 r73 β8 e81) (Qt (Qo _ _) (Qt (Lend.agA ⟨⟨Qq, Qo _ _⟩, Lend.all' Qy (by first|rfl|omega|(simp only[szl]<;>first|rfl|omega)) Z⟩) (Jj))) Z (flow_take_I (l80) β8)) (fun rr HH hp => ?_)
 obtain ⟨rfl, rfl⟩ := hp
 refine Qm (Qd (Qc (Qa (Qj Z Z) (Qa (Jr Z Js Js Qf Z Z) (GoO.freezeB (j := 91) (r' := .ag 2 (nth [.v (.int .i64 r73.amount), slD r73.arcs])) Z Rem.p2 (Lend.agA ⟨⟨Qq, Qo _ _⟩, Lend.all' Qy (by first|rfl|omega|(simp only [row_len, gridC_len, rowO_len, c82] <;>first|rfl|omega)) Z⟩) no_fps (g' := nth [.v (.int .i64 r73.amount), slD r73.arcs]) Js ⟨⟨Qq, Qo _ _⟩, Lend.all' Qy (by first|rfl|omega|(simp only [row_len, gridC_len, rowO_len, c82] <;>first|rfl|omega)) Z⟩ ?_)))))
 refine Jm (ef_buildSlice (row ([r73] : List Piece)) Z (Jl _ _ _ _ _ _ _ _ ⟨Z, Z⟩ (Part.ag _ _ Z) Z Z (Parts.nil _)) Z Z Z Z) (fun β83 => ?_)
 have c85 := ck_l H; replace H := ck_r H
 refine Jm (ef_append Z Z Rem.p3 (Src.own Qy (by first | omega | (simp only [szl, c82]; omega) | (simp only [szl, c82]; done))) (cat_row (α := Piece) (by first|rfl|omega|(simp only [szl, c82] <;>first|rfl|omega)) (by first|rfl|omega|(simp only [szl, c82] <;>first|rfl|omega)) (fun _ _ _ _ => Z)) (by first | omega | (simp only [szl, c82]; omega) | (simp only [szl, c82]; done)) (app_le c85 Z) Z Z Z) (fun β84 => ?_)
 refine Qa (Qh Z Z) (Qm (GoK.blk ?_))
 obtain rfl := Qg H
 exact GoK.againJ m69' (by omega) ⟨_, _, β84, hF65, Z, Z⟩ (Jo Z (Jq (by first|rfl|omega|(simp only [row_len, gridC_len, rowO_len, c82] <;>first|rfl|omega))) (Jo Z (Jq (by first|rfl|omega|(simp only [row_len, gridC_len, rowO_len, List.length_append, List.length_cons, List.length_nil, c82] <;>first|rfl|omega))) (Qe Z (Qe Z (Qe Z (Qe Z (Qe Z (Jc)))))))) (Qn _ _ _ _ _ Rem.p2 (Qu _) (Qn _ _ _ _ _ Qp (Qu _) (Qn _ _ _ _ _ Rem.p2 (Qu _) (Qn _ _ _ _ _ Rem.p2 (Jh ⟨⟨⟨⟨Qq, Qb _⟩, Qb _⟩, Qb _⟩, Qb _⟩) (Jg _)))))
 replace H := ite_f h71 H
 refine GoC.exit Z ?_
 obtain rfl := Qg H
 obtain rfl := Qg hF65
 exact GoK.meet ⟨_, _, β62, Z, Z, Z⟩ (Jo Z (Jq (by first|rfl|omega|(simp only [row_len, gridC_len, rowO_len] <;>first|rfl|omega))) (Jo Z (Jq (by first|rfl|omega|(simp only [row_len, gridC_len, rowO_len] <;>first|rfl|omega))) (Qe Z (Qe Z (Qe Z (Qe Z (Jc))))))) (Qn _ _ _ _ _ Qp (Qu _) (Qn _ _ _ _ _ Qp (Qu _) (Qn _ _ _ _ _ Qp (Qu _) (Qn _ _ _ _ _ Qp (Jh ⟨⟨⟨⟨Qq, Qb _⟩, Qb _⟩, Qb _⟩, Qb _⟩) (Jg _)))))
 rintro v h ⟨l67, l68, β62, rfl, rfl, rfl⟩
 have H := HK64; clear HK64
 refine GoK.blk (Qd (Qc (Qa (ps_add Z Z Z hIk59) (Qa (Qj Z Z) (Qm ?_)))))
 obtain rfl := Qg H
 exact GoK.againJ m60' (by omega) ⟨_, _, _, β62, ⟨by omega, hF55⟩, Z, Z⟩ (Qe Z (Jo Z (Jq (by first|rfl|omega|(simp only [row_len, gridC_len, rowO_len] <;>first|rfl|omega))) (Jo Z (Jq (by first|rfl|omega|(simp only [row_len, gridC_len, rowO_len] <;>first|rfl|omega))) (Qe Z (Qe Z (Qe Z (Jc))))))) (Qn _ _ _ _ _ Qp (Qu _) (Qn _ _ _ _ _ Qp (Qu _) (Qn _ _ _ _ _ Qp (Qu _) (Qn _ _ _ _ _ Qp (Jh ⟨⟨⟨⟨Qq, Qb _⟩, Qb _⟩, Qb _⟩, Qb _⟩) (Jg _)))))
 obtain rfl : m60 = 0 := by omega
 refine GoC.exit Z ?_
 cases hF55
 exact GoK.meet ⟨β52, Z, Z⟩ (Jo Z (Jq (by first|rfl|omega|(simp only [row_len, gridC_len, rowO_len] <;>first|rfl|omega))) (Qe Z (Jc))) (Qn _ _ _ _ _ Qp (Qu _) (Qn _ _ _ _ _ Qp (Qu _) (Qn _ _ _ _ _ Qp (Qu _) (Qn _ _ _ _ _ Qp (Jh ⟨⟨⟨⟨Qq, Qb _⟩, Qb _⟩, Qb _⟩, Qb _⟩) (Jg _)))))
 rintro v h ⟨β52, rfl, rfl⟩
 have H := HK54; clear HK54
 refine Qd (Qi (Qc ?_))
 iterate 2 refine Qa (Qj Z Z) ?_
 iterate 3 refine Qa (Qh Z Z) ?_
 refine Qm (Qd ?_)
 obtain rfl := Qg H
 exact Ja (ds := [.own β12 2 0 l21.length, .own β52 2 0 l58.length, .v (.int .i64 0)]) Try.results56 (Qs (Qw Z) (Qs (Qw Z) (Qs (Qw Z) (Qz)))) (Qk _ _ _ _ _ Rem.p2 (Qk _ _ _ _ _ Jk (Ql _))) ⟨β12, β52, Z, Z⟩
end Go.Proofs.Ytkfmphlnpmemdaa.Sx.Y
