import Derived.Test.YtkfmphlnpmemdaaQTys
import Derived.Test.YtkfmphlnpmemdaaQDA
import Derived.Test.YtkfmphlnpmemdaaQYGslices
import Derived.Test.YtkfmphlnpmemdaaQMbI
import Derived.Test.YtkfmphlnpmemdaaQCoN
set_option maxRecDepth 100000
set_option maxHeartbeats 4000000
set_option linter.unusedVariables false
set_option linter.unusedSimpArgs false
namespace Go.Proofs.Ytkfmphlnpmemdaa.Sx.Y
open Go Go.Proofs.Ytkfmphlnpmemdaa.Sx
theorem weirkeep_ManyAlike_spec {A0 : Nat → Prop} {Post : Value → World → Prop} (a : Int) (b : Int) (jobs : (List (List Deed))) (k : Int) {out : Bool} (H : weirkeep_ManyAlike_F a b jobs k = some out) : DoesM Try.prog (mn0 A0 Post) A0 3 [.v (.int .i64 a), .v (.int .i64 b), slD jobs, .v (.int .i64 k)] [] (weirkeep_ManyAlike_P out) := by
 unfold weirkeep_ManyAlike_F at H
 refine DoesM.intro Try.func3 Z Try.ntmps3 Z fun w0 I0 hIm => ?_
 refine Qi (Qc (Qa (Qh Z Z) (Qm (Qd (Qi (Qi (Qc (Qa (ps_build (Jl _ _ _ _ _ _ _ _ FdP.of (Part.one _ Z Z) Z Z (Jl _ _ _ _ _ _ _ _ FdP.of (Part.one _ Z Z) Z Z (Jl _ _ _ _ _ _ _ _ FdP.of (Part.one _ Z Z) Z Z (Jl _ _ _ _ _ _ _ _ FdP.of (Part.one _ Z Z) Z Z (Parts.nil _))))) Z) (Qa (ps_build (Jl _ _ _ _ _ _ _ _ FdP.of (Part.one _ Z Z) Z Z (Parts.nil _)) Z) (Jm (ef_buildSlice (row ([(⟨2, 0, 1, 7, ByteArray.empty⟩ : Deed), (⟨9, 0, 0, 0, ByteArray.empty⟩ : Deed)] : List Deed)) Z (Jl _ _ _ _ _ _ _ _ ⟨Z, Z⟩ (Part.ag _ _ Z) Z Z (Jl _ _ _ _ _ _ _ _ ⟨Z, Z⟩ (Part.ag _ _ Z) Z Z (Parts.nil _))) Z Z Z Z) (fun β1 => ?_)))))))))))
 refine GoO.freezeJ (j := 21) Z Qp (Lend.all' Qy (by first|rfl|omega|(simp only[szm]<;>first|rfl|omega)) Z) no_fps ?_
 refine Jm (ef_buildSlice (row ([([(⟨2, 0, 1, 7, ByteArray.empty⟩ : Deed), (⟨9, 0, 0, 0, ByteArray.empty⟩ : Deed)] : List Deed)] : List (List Deed))) Z (Jl _ _ _ _ _ _ _ _ ⟨Z, Z⟩ (Part.one _ Z Z) Z Z (Parts.nil _)) Z Z Z Z) (fun β2 => ?_)
 have hb := bind_l H; clear H
 obtain ⟨⟨r3, r4⟩, e5, H⟩ := hb
 refine GoO.callFM Z (Ql _) (Qk _ _ _ _ _ Qp (Ql _)) (many_Run_spec 2 ([([(⟨2, 0, 1, 7, ByteArray.empty⟩ : Deed), (⟨9, 0, 0, 0, ByteArray.empty⟩ : Deed)] : List Deed)] : List (List Deed)) e5) hIm (Qt (Qo _ _) (Qt (Lend.all' Qy (by first|rfl|omega|(simp only[szl]<;>first|rfl|omega)) Z) (Jj))) Z no_fps (fun rr HH hp => ?_)
 obtain ⟨rfl, rfl⟩ := hp
 refine Qa (Qj Z Z) ?_
 iterate 2 refine Qa (Jb Z Z Z) ?_
 iterate 2 refine Qa (Qh Z Z) ?_
 refine Qm (Qd (Qi (Qc (Qa (Qj Z Z) (Qa (ps_neq Z Z Z) (Qa (Qj Z Z) (GoO.guardE Z Z Z Z (fun h6 => ?_) (fun h6 => ?_))))))))
 replace H := ite_f h6 H
 refine Qa (Qj Z Z) (Je Z Z Z (Qa (ps_len Z (by constructor) Z) ?_))
 refine GoO.lenLe (n := r3.length) (x := .tmp 29) Z (by constructor) sl_lenLe (fun ml7 => ?_)
 refine Je Z Z Z (Qa (ps_neq Z Z Z) (Qa (ps_pickF Z Z Z) (Qa (Qj Z Z) (GoO.guardE Z Z Z Z (fun h8 => ?_) (fun h8 => ?_)))))
 replace H := ite_f h8 H
 refine Qa (Qj Z Z) (Je Z Z Z ?_)
 have c9 := ck_l H; replace H := ck_r H
 refine Qa (Jn (i := 0) Z Z c9 Z) ?_
 refine Je Z Z Z (Qa (ps_fieldAddrR Z Z) (Je Z Z Z (Qa (ps_loadR Z c9 Z Z) (Je Z Z Z (Jm (ef_buildSlice (row ([0, 7] : List Int)) Z (Jl _ _ _ _ _ _ _ _ ⟨Z, Z⟩ (Part.one _ Z Z) Z Z (Jl _ _ _ _ _ _ _ _ ⟨Z, Z⟩ (Part.one _ Z Z) Z Z (Parts.nil _))) Z Z Z Z) (fun β10 => ?_))))))
 refine Je Z Z Z ?_
 have hb := bind_l H; clear H
 obtain ⟨r11, e12, H⟩ := hb
 refine GoO.effC (ef_call Z (Ql _) (Qk _ _ _ _ _ Qp (Ql _)) (slices_Equal_int_spec ((r3.getD 0 El.d).numbers) ([0, 7] : List Int) e12) (Qt (Qo _ _) (Qt (Lend.all' Qy (by first|rfl|omega|(simp only[szl]<;>first|rfl|omega)) Z) (Jj))) Z (slices_Equal_int_I (r11))) (fun rr HH hp => ?_)
 obtain ⟨rfl, rfl⟩ := hp
 refine Je Z Z Z (Qa (ps_not Z Z) (Qa (ps_pickF Z Z Z) (Qm (Qd (GoC.cond Z (fun h13 => ?_) (fun h13 => ?_))))))
 replace H := itb_t h13 H
 refine Qi (Qc (Qa (Qh Z Z) (Qm (Qd ?_))))
 obtain rfl := Qg H
 exact Ja (ds := [.v (.bool false)]) Try.results3 (Qs (Qw Z) (Qz)) (Ql _) ⟨Z, Z⟩
 replace H := itb_f h13 H
 refine Ji (Qd (Qi (Qc ?_)))
 iterate 2 refine Qa (Qj Z Z) ?_
 have hb := bind_l H; clear H
 obtain ⟨⟨r14, r15⟩, e16, H⟩ := hb
 refine GoO.callFM Z (Ql _) (Ql _) (many_Run_spec a jobs e16) hIm (Qt (Qo _ _) (Qt (Qo _ _) (Jj))) Z nil_fps (fun rr HH hp => ?_)
 obtain ⟨rfl, rfl⟩ := hp
 refine Qa (Qj Z Z) ?_
 iterate 2 refine Qa (Jb Z Z Z) ?_
 iterate 2 refine Qa (Qh Z Z) ?_
 refine Qm (Qd (Qi (Qc ?_)))
 iterate 2 refine Qa (Qj Z Z) ?_
 have hb := bind_l H; clear H
 obtain ⟨⟨r17, r18⟩, e19, H⟩ := hb
 refine GoO.callFM Z (Ql _) (Ql _) (many_Run_spec b jobs e19) hIm (Qt (Qo _ _) (Qt (Qo _ _) (Jj))) Z nil_fps (fun rr HH hp => ?_)
 obtain ⟨rfl, rfl⟩ := hp
 refine Qa (Qj Z Z) ?_
 iterate 2 refine Qa (Jb Z Z Z) ?_
 iterate 2 refine Qa (Qh Z Z) ?_
 refine Qm (Qd (Qi (Qi (Qc (Qa (Qj Z Z) (Qa (ps_neq Z Z Z) (Qa (Qj Z Z) (GoO.guardE Z Z Z Z (fun h20 => ?_) (fun h20 => ?_)))))))))
 replace H := ite_f h20 H
 refine Qa (Qj Z Z) (Je Z Z Z (Qa (ps_neq Z Z Z) (Qa (ps_pickF Z Z Z) (Qa (Qj Z Z) (GoO.guardE Z Z Z Z (fun h21 => ?_) (fun h21 => ?_))))))
 replace H := ite_f h21 H
 refine Qa (Qj Z Z) (Je Z Z Z (Qa (ps_len Z (by constructor) Z) ?_))
 refine GoO.lenLe (n := r14.length) (x := .tmp 61) Z (by constructor) sl_lenLe (fun ml22 => ?_)
 refine Je Z Z Z (Qa (Qj Z Z) (Je Z Z Z (Qa (ps_len Z (by constructor) Z) ?_)))
 refine GoO.lenLe (n := jobs.length) (x := .tmp 63) Z (by constructor) sl_lenLe (fun ml23 => ?_)
 refine Je Z Z Z (Qa (ps_neq Z Z Z) (Qa (ps_pickF Z Z Z) (Qa (Qj Z Z) (GoO.guardE Z Z Z Z (fun h24 => ?_) (fun h24 => ?_)))))
 replace H := ite_f h24 H
 refine Qa (Qj Z Z) (Je Z Z Z (Qa (ps_len Z (by constructor) Z) ?_))
 refine GoO.lenLe (n := r17.length) (x := .tmp 68) Z (by constructor) sl_lenLe (fun ml25 => ?_)
 refine Je Z Z Z (Qa (Qj Z Z) (Je Z Z Z (Qa (ps_len Z (by constructor) Z) ?_)))
 refine Je Z Z Z (Qa (ps_neq Z Z Z) (Qa (ps_pickF Z Z Z) (Qm (Qd (Jf Z (fun h26 => ?_) (fun h26 => ?_))))))
 replace H := ite_t h26 H
 refine Qi (Qc (Qa (Qj Z Z) (Qa (ps_neq Z Z Z) (Qa (Qj Z Z) (GoO.guardE Z Z Z Z (fun h27 => ?_) (fun h27 => ?_))))))
 replace H := ite_f h27 H
 refine Qa (Qj Z Z) (Je Z Z Z (Qa (ps_neq Z Z Z) (Qa (ps_pickF Z Z Z) (Qa (Qh Z Z) (Qm (Qd ?_))))))
 obtain rfl := Qg H
 exact Ja (ds := [.v (.bool (decide (r18 ≠ 0)))]) Try.results3 (Qs (Qw Z) (Qz)) (Ql _) ⟨Z, Z⟩
 replace H := ite_t h27 H
 refine Qv Z Z Z Z (Qa (ps_pickT Z Z Z) (Qa (Qh Z Z) (Qm (Qd ?_))))
 obtain rfl := Qg H
 exact Ja (ds := [.v (.bool true)]) Try.results3 (Qs (Qw Z) (Qz)) (Ql _) ⟨Z, Z⟩
 replace H := ite_f h26 H
 refine Ji (Qd (Qi (Qi (Qc (Qa (Qj Z Z) (Qa (ps_len Z (by constructor) Z) ?_))))))
 refine Qa (Qj Z Z) (Qm (Qd ?_))
 have hb := bind_l H; clear H
 obtain ⟨q30, hl43, HK28⟩ := hb
 refine GoC.blockJ [(0, .v (.int .i64 a)), (2, slD jobs), (3, .v (.int .i64 k)), (11, slD r14)] [.one β10 3 1 (row ([0, 7] : List Int))] (fun v h => q30 = .go () ∧ v = [] ∧ h = []) ?_ ?_
 refine GoC.loopJ [(0, _), (2, _), (3, _), (11, _), (13, _), (81, _)] [.one β10 3 1 (row ([0, 7] : List Int))] (fun mQ v h => ∃ (k31 : Nat), (k31 + mQ = r14.length ∧ forC (weirkeep_ManyAlike_B1 r14 r17) mQ k31 () = some q30) ∧ v = [(82, .v (.int .i64 ((k31 : Nat) : Int)))] ∧ h = []) r14.length ⟨_, ⟨by omega, hl43⟩, Z, Z⟩ (Qe Z (Qe Z (Qe Z (Qe Z (Qe Z (Qe Z (Qe Z (Jc)))))))) (Qn _ _ _ _ _ Qp (Qu _) (Jg _)) ?_
 rintro m32 v h ⟨k31, ⟨hkk31, hF29⟩, rfl, rfl⟩
 refine Qi (Qc (Qa (ps_lss Z Z Z) (Qm (Qd (Qi (Jf Z (fun (hk31 : (k31 : Int) < ((r14.length : Nat) : Int)) => ?_) (fun (hk31 : ¬ (k31 : Int) < ((r14.length : Nat) : Int)) => ?_)))))))
 obtain ⟨m32', rfl⟩ : ∃ x, m32 = x + 1 := ⟨m32 - 1, by omega⟩
 have hb := bind_l hF29; clear hF29
 obtain ⟨qrm32, H, hF29⟩ := hb
 have hnk31 : k31 < r14.length := by omega
 have hIk31 : InI ((k31 : Int) + 1) := inI_len hk31 ml22
 refine Ji (Qd (Qi (GoC.block (Qi (Qc (Qa (Qj Z Z) (Qa (Qh Z Z) (Qm (Qd (Qi (GoC.drawA (.q 0 (.q 1 (.q 2 (.q 3 (.q 4 (.q 5 (.q 6 (.q 7 (.q 8 (.q 9 (.one 10 (.q 11 (.q 12 (.q 13 (.q 14 (.q 15 (.q 16 (.q 17 (.q 18 (.q 19 (.q 20 (.q 21 (.q 22 (.one 23 (.q 24 (.q 25 (.q 26 (.q 27 (.q 28 (.q 29 (.q 30 (.q 31 (.q 32 (.q 33 (.q 34 (.q 35 (.q 36 (.one 37 (.q 38 (.q 39 (.done))))))))))))))))))))))))))))))))))))))))) follows (by kernel_rfl) ?_)))))))))))
 iterate 2 refine Qx Z (Qj Z Z) ?_
 refine Qx Z (Jn Z Z hnk31 Z) (Qx Z (ps_fieldAddrR Z Z) (Qx Z (ps_loadR Z hnk31 Z Z) ?_))
 iterate 2 refine Qx Z (Qj Z Z) ?_
 have c33 := ck_l H; replace H := ck_r H
 refine Qx Z (Jn Z Z c33 Z) (Qx Z (ps_fieldAddrR Z Z) (Qx Z (ps_loadR Z c33 Z Z) ?_))
 have hb := bind_l H; clear H
 obtain ⟨r34, e35, H⟩ := hb
 refine GoP.oneC Z Qq (ef_call Z (Ql _) (Ql _) (slices_Equal_int_spec ((r14.getD k31 El.d).numbers) ((r17.getD k31 El.d).numbers) e35) (Qt (Qo _ _) (Qt (Qo _ _) (Jj))) Z (slices_Equal_int_I (r34))) (Qk _ _ _ _ _ Qp (Ql _)) (fun rr HH hp => ?_)
 obtain ⟨rfl, rfl⟩ := hp
 refine Qx Z (ps_not Z Z) (Qx Z (Qj Z Z) (GoP.decide 97 Z (fun h36 => ?_) (fun h36 => ?_)))
 replace H := itb_t h36 H
 iterate 10 refine Jp Z Z Z Z Z ?_
 refine GoP.oneF Z Z Z Z Z (Jp Z Z Z Z Z (Qx Z (ps_pickT Z Z Z) (Qx Z (Qj Z Z) ?_)))
 iterate 10 refine Jp Z Z Z Z Z ?_
 refine GoP.oneF Z Z Z Z Z (Jp Z Z Z Z Z (Qx Z (ps_pickT Z Z Z) (GoP.done (Qd (GoC.condT Z ?_)))))
 refine Qi (Qc (Qa (Qh Z Z) (Qm (Qd ?_))))
 obtain rfl := Qg H
 obtain rfl := Qg hF29
 obtain rfl := Qg HK28
 exact Ja (ds := [.v (.bool false)]) Try.results3 (Qs (Qw Z) (Qz)) (Ql _) ⟨Z, Z⟩
 replace H := itb_f h36 H
 iterate 2 refine GoP.qT Z Z Z Z (Qj Z Z) ?_
 refine GoP.qT Z Z Z Z (Jn Z Z hnk31 Z) (GoP.qT Z Z Z Z (ps_fieldAddrR Z Z) (GoP.qT Z Z Z Z (ps_loadR Z hnk31 Z Z) ?_))
 iterate 2 refine GoP.qT Z Z Z Z (Qj Z Z) ?_
 refine GoP.qT Z Z Z Z (Jn Z Z c33 Z) (GoP.qT Z Z Z Z (ps_fieldAddrR Z Z) (GoP.qT Z Z Z Z (ps_loadR Z c33 Z Z) ?_))
 have hb := bind_l H; clear H
 obtain ⟨r37, e38, H⟩ := hb
 refine GoP.oneC Z ⟨_, Z, Z, Z⟩ (ef_call Z (Ql _) (Ql _) (slices_Equal_Errno_spec ((r14.getD k31 El.d).errs) ((r17.getD k31 El.d).errs) e38) (Qt (Qo _ _) (Qt (Qo _ _) (Jj))) Z (slices_Equal_Errno_I (r37))) (Qk _ _ _ _ _ Qp (Ql _)) (fun rr HH hp => ?_)
 obtain ⟨rfl, rfl⟩ := hp
 refine GoP.qT Z Z Z Z (ps_not Z Z) (Qx Z (ps_pickF Z Z Z) (Qx Z (Qj Z Z) (GoP.decide 111 Z (fun h39 => ?_) (fun h39 => ?_))))
 replace H := itb_t h39 H
 iterate 10 refine Jp Z Z Z Z Z ?_
 refine GoP.oneF Z Z Z Z Z (Jp Z Z Z Z Z (Qx Z (ps_pickT Z Z Z) (GoP.done (Qd (GoC.condT Z ?_)))))
 refine Qi (Qc (Qa (Qh Z Z) (Qm (Qd ?_))))
 obtain rfl := Qg H
 obtain rfl := Qg hF29
 obtain rfl := Qg HK28
 exact Ja (ds := [.v (.bool false)]) Try.results3 (Qs (Qw Z) (Qz)) (Ql _) ⟨Z, Z⟩
 replace H := itb_f h39 H
 iterate 2 refine GoP.qT Z Z Z Z (Qj Z Z) ?_
 refine GoP.qT Z Z Z Z (Jn Z Z hnk31 Z) (GoP.qT Z Z Z Z (ps_fieldAddrR Z Z) (GoP.qT Z Z Z Z (ps_loadAgR Z hnk31 Z Z) ?_))
 iterate 2 refine GoP.qT Z Z Z Z (Qj Z Z) ?_
 refine GoP.qT Z Z Z Z (Jn Z Z c33 Z) (GoP.qT Z Z Z Z (ps_fieldAddrR Z Z) (GoP.qT Z Z Z Z (ps_loadAgR Z c33 Z Z) ?_))
 have hb := bind_l H; clear H
 obtain ⟨r40, e41, H⟩ := hb
 refine GoP.oneC Z ⟨_, Z, Z, Z⟩ (ef_call Z (Ql _) (Ql _) (weirkeep_sameNet_spec ((r14.getD k31 El.d).net) ((r17.getD k31 El.d).net) e41) (Qt (Lend.agA ⟨⟨⟨⟨Qq, Qo _ _⟩, Qo _ _⟩, Qo _ _⟩, Qo _ _⟩) (Qt (Lend.agA ⟨⟨⟨⟨Qq, Qo _ _⟩, Qo _ _⟩, Qo _ _⟩, Qo _ _⟩) (Jj))) Z (weirkeep_sameNet_I (r40))) (Qk _ _ _ _ _ Qp (Ql _)) (fun rr HH hp => ?_)
 obtain ⟨rfl, rfl⟩ := hp
 refine GoP.qT Z Z Z Z (ps_not Z Z) (Qx Z (ps_pickF Z Z Z) (GoP.done (Qd (GoC.cond Z (fun h42 => ?_) (fun h42 => ?_)))))
 replace H := itb_t h42 H
 refine Qi (Qc (Qa (Qh Z Z) (Qm (Qd ?_))))
 obtain rfl := Qg H
 obtain rfl := Qg hF29
 obtain rfl := Qg HK28
 exact Ja (ds := [.v (.bool false)]) Try.results3 (Qs (Qw Z) (Qz)) (Ql _) ⟨Z, Z⟩
 replace H := itb_f h42 H
 refine Ji (GoK.blk (Qd (Qc (Qa (ps_add Z Z Z hIk31) (Qa (Qj Z Z) (Qm ?_))))))
 obtain rfl := Qg H
 exact GoK.againJ m32' (by omega) ⟨_, ⟨by omega, hF29⟩, Z, Z⟩ (Qe Z (Qe Z (Qe Z (Qe Z (Qe Z (Qe Z (Qe Z (Jc)))))))) (Qn _ _ _ _ _ Qp (Qu _) (Jg _))
 obtain rfl : m32 = 0 := by omega
 refine GoC.exit Z ?_
 cases hF29
 exact GoK.meet ⟨Z, Z, Z⟩ (Qe Z (Qe Z (Qe Z (Qe Z (Jc))))) (Qn _ _ _ _ _ Qp (Qu _) (Jg _))
 rintro v h ⟨rfl, rfl, rfl⟩
 have H := HK28; clear HK28
 refine Qd (Qi (Qi (Qc (Qa (Qj Z Z) (Qa (ps_len Z (by constructor) Z) ?_)))))
 refine Qa (ps_eql Z Z Z) (Qm (Qd (Jf Z (fun h44 => ?_) (fun h44 => ?_))))
 replace H := ite_t h44 H
 refine Qi (Qc (Qa (Qh Z Z) (Qm (Qd ?_))))
 obtain rfl := Qg H
 exact Ja (ds := [.v (.bool true)]) Try.results3 (Qs (Qw Z) (Qz)) (Ql _) ⟨Z, Z⟩
 replace H := ite_f h44 H
 refine Ji (Qd (Qi (Qc ?_)))
 iterate 2 refine Qa (Qj Z Z) ?_
 refine Qa (ps_len Z (by constructor) Z) ?_
 have hb := bind_l H; clear H
 obtain ⟨r45, e46, H⟩ := hb
 refine GoO.effC (ef_call Z (Ql _) (Ql _) (weirref_Rest_spec k ((jobs.length : Nat) : Int) e46) (Qt (Qo _ _) (Qt (Qo _ _) (Jj))) Z (weirref_Rest_I (r45))) (fun rr HH hp => ?_)
 obtain ⟨rfl, rfl⟩ := hp
 refine Qa (Qh Z Z) (Qm (Qd (Qi (Qc ?_))))
 iterate 4 refine Qa (Qj Z Z) ?_
 have c47 := ck_l H; replace H := ck_r H
 refine Qa (ps_add Z Z Z c47) ?_
 have c48 := ck_l H; replace H := ck_r H
 have c49 := ck_l H; replace H := ck_r H
 have c50 := ck_l H; replace H := ck_r H
 have c51 := ck_l H; replace H := ck_r H
 refine Qa (ps_sliceR Z (Bd.int _ _ _ _ Z c48) (Bd.int _ _ _ _ Z c49) c50 c51 Z) (GoO.le (Le.re 139 Z (DLe.part (xs := jobs) (r := r45.toNat) (len := (r45 + 1).toNat - r45.toNat) (by have := c50; have := c51; first | omega | (simp only [szl]; omega)))) ?_)
 have hb := bind_l H; clear H
 obtain ⟨⟨r52, r53⟩, e54, H⟩ := hb
 refine GoO.callFM Z (Ql _) (Ql _) (many_Run_spec a (subl jobs r45.toNat ((r45 + 1).toNat - r45.toNat)) e54) hIm (Qt (Qo _ _) (Qt (Qo _ _) (Jj))) Z nil_fps (fun rr HH hp => ?_)
 obtain ⟨rfl, rfl⟩ := hp
 refine Qa (Qj Z Z) ?_
 iterate 2 refine Qa (Jb Z Z Z) ?_
 iterate 2 refine Qa (Qh Z Z) ?_
 refine Qm (Qd (Qi (GoC.drawA (.q 0 (.q 1 (.q 2 (.q 3 (.q 4 (.q 5 (.q 6 (.q 7 (.q 8 (.q 9 (.q 10 (.q 11 (.q 12 (.q 13 (.q 14 (.q 15 (.q 16 (.one 17 (.q 18 (.q 19 (.q 20 (.q 21 (.q 22 (.q 23 (.q 24 (.q 25 (.q 26 (.q 27 (.q 28 (.one 29 (.q 30 (.q 31 (.done))))))))))))))))))))))))))))))))) follows (by kernel_rfl) ?_)))
 refine Qx Z (Qj Z Z) (Qx Z (ps_eql Z Z Z) (Qx Z (Qj Z Z) (GoP.decideD 145 Z (fun h55 => ?_) (fun h55 => ?_))))
 replace H := ite_t h55 H
 refine GoP.qT Z Z Z Z (Qj Z Z) (GoP.qT Z Z Z Z (ps_len Z (by constructor) Z) ?_)
 refine GoP.qT Z Z Z Z (ps_eql Z Z Z) (Qx Z (ps_pickT Z Z Z) (Qx Z (Qj Z Z) (GoP.decideD 150 Z (fun h56 => ?_) (fun h56 => ?_))))
 replace H := ite_t h56 H
 refine GoP.qT Z Z Z Z (Qj Z Z) ?_
 have c57 := ck_l H; replace H := ck_r H
 refine GoP.qT Z Z Z Z (Jn (i := 0) Z Z c57 Z) ?_
 refine GoP.qT Z Z Z Z (ps_fieldAddrR Z Z) (GoP.qT Z Z Z Z (ps_loadR Z c57 Z Z) ?_)
 iterate 2 refine GoP.qT Z Z Z Z (Qj Z Z) ?_
 have c58 := ck_l H; replace H := ck_r H
 refine GoP.qT Z Z Z Z (ps_indexAddrR Z Z c58 Z) (GoP.qT Z Z Z Z (ps_fieldAddrR Z Z) (GoP.qT Z Z Z Z (ps_loadR Z (idx_lt c58) Z Z) ?_))
 have hb := bind_l H; clear H
 obtain ⟨r59, e60, H⟩ := hb
 refine GoP.oneC Z ⟨_, Z, Z, Z⟩ (ef_call Z (Ql _) (Ql _) (slices_Equal_int_spec ((r52.getD 0 El.d).numbers) ((r14.getD r45.toNat El.d).numbers) e60) (Qt (Qo _ _) (Qt (Qo _ _) (Jj))) Z (slices_Equal_int_I (r59))) (Qk _ _ _ _ _ Qp (Ql _)) (fun rr HH hp => ?_)
 obtain ⟨rfl, rfl⟩ := hp
 refine Qx Z (ps_pickT Z Z Z) (Qx Z (Qj Z Z) (GoP.decide 162 Z (fun h61 => ?_) (fun h61 => ?_)))
 replace H := itb_t h61 H
 refine GoP.qT Z Z Z Z (Qj Z Z) (GoP.qT Z Z Z Z (Jn (i := 0) Z Z c57 Z) ?_)
 refine GoP.qT Z Z Z Z (ps_fieldAddrR Z Z) (GoP.qT Z Z Z Z (ps_loadAgR Z c57 Z Z) ?_)
 iterate 2 refine GoP.qT Z Z Z Z (Qj Z Z) ?_
 refine GoP.qT Z Z Z Z (ps_indexAddrR Z Z c58 Z) (GoP.qT Z Z Z Z (ps_fieldAddrR Z Z) (GoP.qT Z Z Z Z (ps_loadAgR Z (idx_lt c58) Z Z) ?_))
 have hb := bind_l H; clear H
 obtain ⟨r62, e63, H⟩ := hb
 refine GoP.oneC Z ⟨_, Z, Z, Z⟩ (ef_call Z (Ql _) (Ql _) (weirkeep_sameNet_spec ((r52.getD 0 El.d).net) ((r14.getD r45.toNat El.d).net) e63) (Qt (Lend.agA ⟨⟨⟨⟨Qq, Qo _ _⟩, Qo _ _⟩, Qo _ _⟩, Qo _ _⟩) (Qt (Lend.agA ⟨⟨⟨⟨Qq, Qo _ _⟩, Qo _ _⟩, Qo _ _⟩, Qo _ _⟩) (Jj))) Z (weirkeep_sameNet_I (r62))) (Qk _ _ _ _ _ Qp (Ql _)) (fun rr HH hp => ?_)
 obtain ⟨rfl, rfl⟩ := hp
 refine Qx Z (ps_pickT Z Z Z) (Qx Z (Qh Z Z) (GoP.done (Qd ?_)))
 obtain rfl := Qg H
 exact Ja (ds := [.v (.bool r62)]) Try.results3 (Qs (Qw Z) (Qz)) (Ql _) ⟨Z, Z⟩
 replace H := itb_f h61 H
 iterate 9 refine Jp Z Z Z Z Z ?_
 refine GoP.oneF Z Z Z Z Z (Qx Z (ps_pickF Z Z Z) (Qx Z (Qh Z Z) (GoP.done (Qd ?_))))
 obtain rfl := Qg H
 exact Ja (ds := [.v (.bool false)]) Try.results3 (Qs (Qw Z) (Qz)) (Ql _) ⟨Z, Z⟩
 replace H := ite_f h56 H
 iterate 9 refine Jp Z Z Z Z Z ?_
 refine GoP.oneF Z Z Z Z Z (Qx Z (ps_pickF Z Z Z) (Qx Z (Qj Z Z) ?_))
 iterate 9 refine Jp Z Z Z Z Z ?_
 refine GoP.oneF Z Z Z Z Z (Qx Z (ps_pickF Z Z Z) (Qx Z (Qh Z Z) (GoP.done (Qd ?_))))
 obtain rfl := Qg H
 exact Ja (ds := [.v (.bool false)]) Try.results3 (Qs (Qw Z) (Qz)) (Ql _) ⟨Z, Z⟩
 replace H := ite_f h55 H
 iterate 3 refine Jp Z Z Z Z Z ?_
 refine Qx Z (ps_pickF Z Z Z) (Qx Z (Qj Z Z) ?_)
 iterate 9 refine Jp Z Z Z Z Z ?_
 refine GoP.oneF Z Z Z Z Z (Qx Z (ps_pickF Z Z Z) (Qx Z (Qj Z Z) ?_))
 iterate 9 refine Jp Z Z Z Z Z ?_
 refine GoP.oneF Z Z Z Z Z (Qx Z (ps_pickF Z Z Z) (Qx Z (Qh Z Z) (GoP.done (Qd ?_))))
 obtain rfl := Qg H
 exact Ja (ds := [.v (.bool false)]) Try.results3 (Qs (Qw Z) (Qz)) (Ql _) ⟨Z, Z⟩
 replace H := ite_t h24 H
 iterate 4 refine Qv Z Z Z Z ?_
 refine Qa (ps_pickT Z Z Z) (Qm (Qd (GoC.condT Z (Qi (Qc (Qa (Qj Z Z) (Qa (ps_neq Z Z Z) ?_)))))))
 refine Qa (Qj Z Z) (GoO.guardE Z Z Z Z (fun h64 => ?_) (fun h64 => ?_))
 replace H := ite_f h64 H
 refine Qa (Qj Z Z) (Je Z Z Z (Qa (ps_neq Z Z Z) (Qa (ps_pickF Z Z Z) (Qa (Qh Z Z) (Qm (Qd ?_))))))
 obtain rfl := Qg H
 exact Ja (ds := [.v (.bool (decide (r18 ≠ 0)))]) Try.results3 (Qs (Qw Z) (Qz)) (Ql _) ⟨Z, Z⟩
 replace H := ite_t h64 H
 refine Qv Z Z Z Z (Qa (ps_pickT Z Z Z) (Qa (Qh Z Z) (Qm (Qd ?_))))
 obtain rfl := Qg H
 exact Ja (ds := [.v (.bool true)]) Try.results3 (Qs (Qw Z) (Qz)) (Ql _) ⟨Z, Z⟩
 replace H := ite_t h21 H
 iterate 4 refine Qv Z Z Z Z ?_
 refine Qa (ps_pickT Z Z Z) (Qa (Qj Z Z) ?_)
 iterate 5 refine Qv Z Z Z Z ?_
 refine Qa (ps_pickT Z Z Z) (Qm (Qd (GoC.condT Z (Qi (Qc (Qa (Qj Z Z) (Qa (ps_neq Z Z Z) ?_)))))))
 refine Qa (Qj Z Z) (GoO.guardE Z Z Z Z (fun h65 => ?_) (fun h65 => ?_))
 replace H := ite_f h65 H
 refine Qa (Qj Z Z) (Je Z Z Z (Qa (ps_neq Z Z Z) (Qa (ps_pickF Z Z Z) (Qa (Qh Z Z) (Qm (Qd ?_))))))
 obtain rfl := Qg H
 exact Ja (ds := [.v (.bool (decide (r18 ≠ 0)))]) Try.results3 (Qs (Qw Z) (Qz)) (Ql _) ⟨Z, Z⟩
 replace H := ite_t h65 H
 refine Qv Z Z Z Z (Qa (ps_pickT Z Z Z) (Qa (Qh Z Z) (Qm (Qd ?_))))
 obtain rfl := Qg H
 exact Ja (ds := [.v (.bool true)]) Try.results3 (Qs (Qw Z) (Qz)) (Ql _) ⟨Z, Z⟩
 replace H := ite_t h20 H
 refine Qv Z Z Z Z (Qa (ps_pickT Z Z Z) (Qa (Qj Z Z) ?_))
 iterate 5 refine Qv Z Z Z Z ?_
 refine Qa (ps_pickT Z Z Z) (Qa (Qj Z Z) ?_)
 iterate 5 refine Qv Z Z Z Z ?_
 refine Qa (ps_pickT Z Z Z) (Qm (Qd (GoC.condT Z (Qi (Qc (Qa (Qj Z Z) (Qa (ps_neq Z Z Z) ?_)))))))
 refine Qa (Qj Z Z) (GoO.guardE Z Z Z Z (fun h66 => ?_) (fun h66 => ?_))
 replace H := ite_f h66 H
 refine Qa (Qj Z Z) (Je Z Z Z (Qa (ps_neq Z Z Z) (Qa (ps_pickF Z Z Z) (Qa (Qh Z Z) (Qm (Qd ?_))))))
 obtain rfl := Qg H
 exact Ja (ds := [.v (.bool (decide (r18 ≠ 0)))]) Try.results3 (Qs (Qw Z) (Qz)) (Ql _) ⟨Z, Z⟩
 replace H := ite_t h66 H
 refine Qv Z Z Z Z (Qa (ps_pickT Z Z Z) (Qa (Qh Z Z) (Qm (Qd ?_))))
 obtain rfl := Qg H
 exact Ja (ds := [.v (.bool true)]) Try.results3 (Qs (Qw Z) (Qz)) (Ql _) ⟨Z, Z⟩
 replace H := ite_t h8 H
 iterate 6 refine Qv Z Z Z Z ?_
 refine Qa (ps_pickT Z Z Z) (Qm (Qd (GoC.condT Z (Qi (Qc (Qa (Qh Z Z) (Qm (Qd ?_))))))))
 obtain rfl := Qg H
 exact Ja (ds := [.v (.bool false)]) Try.results3 (Qs (Qw Z) (Qz)) (Ql _) ⟨Z, Z⟩
 replace H := ite_t h6 H
 iterate 2 refine Qv Z Z Z Z ?_
 refine Qa (ps_pickT Z Z Z) (Qa (Qj Z Z) ?_)
 iterate 7 refine Qv Z Z Z Z ?_
 refine Qa (ps_pickT Z Z Z) (Qm (Qd (GoC.condT Z (Qi (Qc (Qa (Qh Z Z) (Qm (Qd ?_))))))))
 obtain rfl := Qg H
 exact Ja (ds := [.v (.bool false)]) Try.results3 (Qs (Qw Z) (Qz)) (Ql _) ⟨Z, Z⟩
end Go.Proofs.Ytkfmphlnpmemdaa.Sx.Y
namespace Go.Proofs.Ytkfmphlnpmemdaa.Sx
open Go Go.Conc Go.ConcN
set_option linter.unusedVariables false
set_option linter.unusedSimpArgs false
open Classical in
noncomputable def gh0 (W : World) : Gh := ⟨1, fun b => if b < W.heap.size then .imm else .free, fun _ => 0, fun _ => 0, none⟩
theorem gh0_kd {W : World} {b : Nat} : b < W.heap.size ↔ (gh0 W).kd b = .imm := by
  unfold gh0
  by_cases h : b < W.heap.size <;> simp [h]
theorem gh0_own {W : World} {b : Nat} {g : Nat} : (gh0 W).kd b ≠ .own g := by
  unfold gh0
  by_cases h : b < W.heap.size <;> simp [h]
theorem gh0_free {W : World} {b : Nat} (h : ¬ b < W.heap.size) : (gh0 W).kd b = .free := by
  unfold gh0
  simp [h]
theorem touch_nil {i : Nat} {a : Touch} : touchAt #[] i ≠ some a := fun h => by
  obtain ⟨x, hx, _⟩ := touch_of h
  simp at hx
theorem ok0 (W : World) : Ok (gh0 W) W #[] := by
  refine ⟨Nat.le_refl _, ⟨fun i op x h => (by simp at h), fun _ i a h => absurd h touch_nil, fun _ i a h => absurd h touch_nil, fun h => h.elim, noRace_nil, fun i op h => (by simp at h)⟩, fun i a h => absurd h touch_nil, fun b hb => gh0_free (by omega), fun i => ?_, fun a i hi => ?_, fun g h1 h2 => ?_, fun i g x h => ?_, fun p h => (by cases h), fun b g h => absurd h gh0_own, fun _ b => ?_⟩
  · exact Deaf_absent fun i op h => by simp at h
  · simp [Trace.act?] at hi
  · have h2 : g < 1 := h2
    omega
  · simp [Trace.g?] at h
  · by_cases h : b < W.heap.size
    · exact .inr (.inr (gh0_kd.1 h))
    · exact .inl (gh0_free h)
section
variable {P : Program} {b : Frame} {a : Act} {w : World}
theorem stepG_endE {fn : Func} {todo : List Item} {v : Value} (hn : b.kind = .normal) (hd : a.defers = []) (hf : P.funcs[b.fn]? = some fn) (hr : (results fn a.tmps).run P w = .ok v w) (hi : P.inits.idxOf? b.fn = none) :
    stepG P true (G { b.at a todo with mode := .returning } []) w = .ended (.done v) w (seen P b.fn ((results fn a.tmps).events P w #[])) := by
  simp [G, stepG, unwind, doReturn, Frame.at, hn, hd, hf, hr, hi, GStep.after]
end
def endOf (W : World) (v : Value) (w' : World) : Prop := v = .bool true ∧ w'.os = W.os ∧ w'.tape = W.tape ∧ w'.output = W.output ∧ W.heap.size ≤ w'.heap.size ∧ ∀ b, b < W.heap.size → w'.heap[b]? = W.heap[b]?
theorem many_ends {W : World} {ds : List D} {args : List Value} (hargs : RdL (fun b => b < W.heap.size) W ds args) (spec : Y.DoesM Try.prog (mn0 (fun b => b < W.heap.size) (endOf W)) (fun b => b < W.heap.size) 3 ds [] (weirkeep_ManyAlike_P true)) :
    ∃ N last o w' t', runNT Try.prog (N + 1) (solo (G (Frame.enter Try.prog 3 args.toArray .normal) []) W) #[] = (.ended o w', t') ∧ runN Try.prog N (solo (G (Frame.enter Try.prog 3 args.toArray .normal) []) W) = .next last ∧ step Try.prog last = .ended o w' ∧ Conc.Good Try.prog (endOf W) last o w' t' := by
  have nf : ∀ b, ¬ fps [] b := fun b ⟨z, hz, _⟩ => by simp at hz
  obtain ⟨fn, c, hf, hname, hbody, hwp⟩ := spec (fun b => b < W.heap.size) W args (fun _ => False) hargs ⟨fun z hz => absurd hz (by simp), List.Pairwise.nil, fun b hb => absurd hb (nf b)⟩ (fun b hb => absurd hb (nf b)) (fun b hb => ⟨hb, .inl hb⟩) (fun b hb => hb.elim) (noTab _ W) fun b hb => hb
  have fin : ∀ (a' : Act) (w' : World) (O' : Nat → Prop) (todo : List Item), (a'.defers = [] ∧ ∀ w₁, Rely (fun b => b < W.heap.size) O' w' w₁ → ∃ v, (results fn a'.tmps).run Try.prog w₁ = .ok v w₁ ∧ Guar (fun b => b < W.heap.size) O' w₁ w₁ ((results fn a'.tmps).events Try.prog w₁ #[]) ∧ Y.RetY ⟨Try.prog, 0, mn0 (fun b => b < W.heap.size) (endOf W), 3, W, fps [], fun b => b < W.heap.size, fun _ => False, fun b => b < W.heap.size⟩ (weirkeep_ManyAlike_P true) v w₁ O') →
      GoesO Try.prog true (fun b => b < W.heap.size) (mn0 (fun b => b < W.heap.size) (endOf W)).Stop O' (G { (base 3).at a' todo with mode := .returning } []) w' := by
    rintro a' w' O' todo ⟨hd, hr⟩
    refine .stop fun w₁ h₁ σ ho hJ => CLife.mk rfl fun σ₂ w₂ he ⟨t, hok⟩ => .inr (.inr (.inr ?_))
    obtain ⟨hJ2, hr2, hown2⟩ := hJ.env rs0 he
    obtain ⟨v, r1, r2, r3⟩ := hr w₂ (h₁.trans (ho ▸ hr2))
    refine ⟨v, _, stepG_endE (b := base 3) rfl hd hf r1 (by kernel_rfl), ⟨hJ2.r, fun op hop => ?_⟩, ?_⟩
    · have h1 := opOk_ofEvents (r2.seen Try.prog 3).evs op hop
      rw [grow_self] at h1
      have hO2 : σ₂.own 0 = O' := hown2.trans ho
      exact ⟨h1.g, fun x hx => by rw [hO2]; exact (h1.touch x hx).im fun b hb => .inl ((hJ2.im b).1 hb), h1.mem, h1.mark⟩
    · obtain ⟨d, H', N2, ⟨rfl, rfl⟩, hrd, hok', hN2, hfp, hsub, holt, hkeep, himk, e1, e2, e3, e4⟩ := r3
      exact ⟨hrd, e1, e2, e3, e4, himk⟩
  have hgo : GoesO Try.prog true (fun b => b < W.heap.size) (mn0 (fun b => b < W.heap.size) (endOf W)).Stop (fun _ => False) (G (Frame.enter Try.prog 3 args.toArray .normal) []) W := by
    rw [enter_at _ hf hbody]
    refine hwp (base 3) [] [] rfl (by simp [base]) fun e a' w' O' q => ?_
    cases e with
    | normal => exact .move rfl (fun _ => stepG_end) (fin a' w' O' [] q)
    | ret => exact fun todo => fin a' w' O' todo q
    | _ => exact q.elim
  have hlife : CLife (many Try.prog) (endOf W) (gh0 W) (G (Frame.enter Try.prog 3 args.toArray .normal) []) W := cWalk rs0 hgo (funext fun b => propext ⟨fun h => absurd h gh0_own, fun h => h.elim⟩) ⟨rfl, fun b => gh0_kd, rfl⟩
  obtain ⟨r, hr⟩ := hlife
  exact lives_end (Φ := many Try.prog) (Post := endOf W) (μ := (r, [], 1)) ⟨_, W, none, gh0 W, _, _, solo_eq_crowd _ _, rfl, rfl, rfl, ok0 W, hr, .inl ⟨rfl, rfl⟩, fun i r h => by simp at h⟩
end Go.Proofs.Ytkfmphlnpmemdaa.Sx
