import Derived.Test.YtkfmphlnpmemdaaQTys
import Derived.Test.YtkfmphlnpmemdaaQDA
import Derived.Test.YtkfmphlnpmemdaaQYGstore
import Derived.Test.YtkfmphlnpmemdaaQCoN
set_option maxRecDepth 100000
set_option maxHeartbeats 4000000
set_option linter.unusedVariables false
set_option linter.unusedSimpArgs false
namespace Go.Proofs.Ytkfmphlnpmemdaa.Sx.Y
open Go Go.Proofs.Ytkfmphlnpmemdaa.Sx
theorem many_do_spec (deeds : (List Deed)) {out : Tale} (H : many_do_F deeds = some out) : Does Try.prog 11 [slD deeds] [] (many_do_P out) := by
 unfold many_do_F at H
 refine Does.intro Try.func11 Z Try.ntmps11 Z fun w0 I0 tb0 => ?_
 refine Qi (Qc (Jm (ef_alloc Z) (fun β1 => ?_)))
 refine Qm (Qd (Qi (Qc ?_)))
 have hb := bind_l H; clear H
 obtain ⟨r2, e7, H⟩ := hb
 refine GoO.callF Z (Ql _) (Ql _) (store_New_spec e7) (Jj) Z nil_fps (fun rr HH hp => ?_)
 obtain ⟨β3, β4, β5, β6, rfl, rfl⟩ := hp
 refine Qa (Qh Z Z) (Qm (Qd (Qi (Qc (Jm (ef_alloc Z) (fun β8 => ?_))))))
 refine Qm (Qd (Qi (Qi (Qc (Qa (Qj Z Z) (Qa (ps_len Z (by constructor) Z) ?_))))))
 refine GoO.lenLe (n := deeds.length) (x := .tmp 10) Z (by constructor) sl_lenLe (fun ml9 => ?_)
 refine Qa (Qj Z Z) (Qm (Qd ?_))
 have hb := bind_l H; clear H
 obtain ⟨⟨z21, l22, l23⟩, hl54, HK18⟩ := hb
 refine GoC.blockJ [(2, .ptr β1 6 0 0)] [.one β1 37 6 (st1 (nth [.v (.slice none 0 0), .v (.slice none 0 0), .v (.int .i64 0), .v (.int .i64 0), .v (.int .i64 0), .v (.slice none 0 0)]))] (fun v h => ∃ (β11 : BK) (β12 : BK) (β13 : BK) (β14 : BK) (β16 : BK), v = [(3, .ptr β3 8 0 0), (4, .ptr β8 6 0 0)] ∧ h = [.one β3 90 8 (st1 (nth [.v (.int .i64 z21.now.net.n), .v (.int .i64 z21.now.net.s), .v (.int .i64 z21.now.net.t), slD z21.now.net.as, slD z21.now.flow, .own β11 5 0 z21.old.length, .own β12 1 0 z21.names.length, .own β13 5 0 z21.saved.length])), .one β11 86 5 (row z21.old), .one β12 9 1 (row z21.names), .one β13 86 5 (row z21.saved), .one β14 3 1 (row l22), .one β16 24 1 (row l23), .one β8 37 6 (st1 (nth [.own β14 1 0 l22.length, .own β16 1 0 l23.length, .v (.int .i64 0), .v (.int .i64 0), .v (.int .i64 0), .v (.slice none 0 0)]))]) ?_ ?_
 refine GoC.loopJ [(2, _), (10, _), (11, _)] [.one β1 37 6 (st1 (nth [.v (.slice none 0 0), .v (.slice none 0 0), .v (.int .i64 0), .v (.int .i64 0), .v (.int .i64 0), .v (.slice none 0 0)]))] (fun mQ v h => ∃ (k24 : Nat) (z10 : Store) (l15 : (List Int)) (l17 : (List Int)) (β11 : BK) (β12 : BK) (β13 : BK) (β14 : BK) (β16 : BK), (k24 + mQ = deeds.length ∧ forN (many_do_B1 deeds) mQ k24 (z10, l15, l17) = some (z21, l22, l23)) ∧ v = [(12, .v (.int .i64 ((k24 : Nat) : Int))), (3, .ptr β3 8 0 0), (4, .ptr β8 6 0 0)] ∧ h = [.one β3 90 8 (st1 (nth [.v (.int .i64 z10.now.net.n), .v (.int .i64 z10.now.net.s), .v (.int .i64 z10.now.net.t), slD z10.now.net.as, slD z10.now.flow, .own β11 5 0 z10.old.length, .own β12 1 0 z10.names.length, .own β13 5 0 z10.saved.length])), .one β11 86 5 (row z10.old), .one β12 9 1 (row z10.names), .one β13 86 5 (row z10.saved), .one β14 3 1 (row l15), .one β16 24 1 (row l17), .one β8 37 6 (st1 (nth [.own β14 1 0 l15.length, .own β16 1 0 l17.length, .v (.int .i64 0), .v (.int .i64 0), .v (.int .i64 0), .v (.slice none 0 0)]))]) deeds.length ⟨_, _, _, _, β4, β5, β6, ⟨0, 0, 0⟩, ⟨0, 0, 0⟩, ⟨by omega, hl54⟩, Z, Z⟩ (Qe Z (Qe Z (Qe Z (Qe Z (Qe Z (Qe Z (Jc))))))) (Qn _ _ _ _ _ Jk (Jh ⟨⟨⟨⟨⟨⟨⟨⟨Qq, Qb _⟩, Qb _⟩, Qb _⟩, Qb _⟩, Qb _⟩, Jq (by first|rfl|omega|(simp only [row_len, gridC_len, rowO_len] <;>first|rfl|omega))⟩, Jq (by first|rfl|omega|(simp only [row_len, gridC_len, rowO_len] <;>first|rfl|omega))⟩, Jq (by first|rfl|omega|(simp only [row_len, gridC_len, rowO_len] <;>first|rfl|omega))⟩) (Qn _ _ _ _ _ Jk (Qu _) (Qn _ _ _ _ _ Jk (Qu _) (Qn _ _ _ _ _ Jk (Qu _) (TkD.no _ _ _ _ _ Z (TkD.no _ _ _ _ _ Z (Qn _ _ _ _ _ Qp (Jh ⟨⟨⟨⟨⟨⟨Qq, DLe.nilOwn⟩, DLe.nilOwn⟩, Qb _⟩, Qb _⟩, Qb _⟩, Qb _⟩) (Qn _ _ _ _ _ Qp (Jh ⟨⟨⟨⟨⟨⟨Qq, Qb _⟩, Qb _⟩, Qb _⟩, Qb _⟩, Qb _⟩, Qb _⟩) (Jg _))))))))) ?_
 rintro m25 v h ⟨k24, z10, l15, l17, β11, β12, β13, β14, β16, ⟨hkk24, hF19⟩, rfl, rfl⟩
 refine Qi (Qc (Qa (ps_lss Z Z Z) (Qm (Qd (Qi (Jf Z (fun (hk24 : (k24 : Int) < ((deeds.length : Nat) : Int)) => ?_) (fun (hk24 : ¬ (k24 : Int) < ((deeds.length : Nat) : Int)) => ?_)))))))
 obtain ⟨m25', rfl⟩ : ∃ x, m25 = x + 1 := ⟨m25 - 1, by omega⟩
 have hb := bind_l hF19; clear hF19
 obtain ⟨qrm25, H, hF19⟩ := hb
 have hnk24 : k24 < deeds.length := by omega
 have hIk24 : InI ((k24 : Int) + 1) := inI_len hk24 ml9
 refine Ji (Qd (Qi (GoC.block (Qi (Qc (Qa (Jn Z Z hnk24 Z) (Qa (ps_loadAgR Z hnk24 Z Z) (Jm (ef_alloc Z) (fun β26 => ?_)))))))))
 refine GoO.eff1 (ef_storeAg Z Z Qy upd_whole Qf Z) (Qm (Qd (Qi (Qc (Qa (Qj Z Z) (Qa (Jr Z Qy Qy Qf Z Z) ?_))))))
 have hb := bind_l H; clear H
 obtain ⟨⟨r27, r28, x29⟩, e30, H⟩ := hb
 refine GoO.callF Z (Qk _ _ _ _ _ Jk (Qk _ _ _ _ _ Jk (Qk _ _ _ _ _ Jk (Qk _ _ _ _ _ Jk (Ql _))))) (Ql _) (store_Do_spec z10 (deeds.getD k24 El.d) β3 β11 β12 β13 e30) (Qt (Qo _ _) (Qt (Lend.agA ⟨⟨⟨⟨⟨Qq, Qo _ _⟩, Qo _ _⟩, Qo _ _⟩, Qo _ _⟩, Qo _ _⟩) (Jj))) Z nil_fps (fun rr HH hp => ?_)
 obtain ⟨β31, β32, β33, rfl, rfl⟩ := hp
 refine Qa (Qj Z Z) ?_
 iterate 2 refine Qa (Jb Z Z Z) ?_
 iterate 2 refine Qa (Qh Z Z) ?_
 refine Qm (Qd (GoC.drawQH (.q 0 (.q 1 (.q 2 (.q 5 (.q 6 (.q 7 (.two 3 8 (.two 4 8 (.q 10 (.one 8 (.one 9 (.one 11 (.q 12 (.one 13 (.done))))))) (.one 4 (.q 10 (.one 9 (.one 11 (.q 12 (.one 13 (.done)))))))) (.one 3 (.one 4 (.q 10 (.one 9 (.one 11 (.q 12 (.one 13 (.done))))))))))))))) 11 [.one β8 37 6 (st1 (nth [.own β14 1 0 l15.length, .own β16 1 0 l17.length, .v (.int .i64 0), .v (.int .i64 0), .v (.int .i64 0), .v (.slice none 0 0)]))] follows (by kernel_rfl) (Qk _ _ _ _ _ Rem.p7 (Ql _)) ?_))
 refine GoQ.qP Z Z (Qr Z Z) (GoQ.qN Z (by kernel_rfl) (Jd Z At.p7 Qy Qf Z Z) ?_)
 refine GoQ.qP Z Z (Qj Z Z) (GoQ.qP Z Z (Qr Z Z) (GoQ.qN Z (by kernel_rfl) (Jd Z At.p7 Qy Qf Z Z) ?_))
 refine GoQ.qP Z Z (Qj Z Z) ?_
 have c36 := ck_l H; replace H := ck_r H
 have c39 := ck_l H; replace H := ck_r H
 apply GoQ.fork4
 exact Z
 exact Z
 exact Z
 exact Z
 exact Qq
 exact Qq
 exact ef_buildSlice (row ([r27] : List Int)) Z (Jl _ _ _ _ _ _ _ _ ⟨Z, Z⟩ (Part.one _ Z Z) Z Z (Parts.nil _)) Z Z Z Z
 exact ef_buildSlice (row ([r28] : List Int)) Z (Jl _ _ _ _ _ _ _ _ ⟨Z, Z⟩ (Part.one _ Z Z) Z Z (Parts.nil _)) Z Z Z Z
 exact (Qk _ _ _ _ _ Rem.p7 (Ql _))
 exact (Qk _ _ _ _ _ Rem.p7 (Ql _))
 intro hQ
 rintro _ ⟨β40, rfl⟩
 apply GoQ.fork3
 exact Z
 exact Z
 exact Z
 exact Z
 exact Qq
 exact Qq
 exact ef_append Z Z Rem.p6 (Src.own Qy (by first | omega | (simp only [szl]; omega) | (simp only [szl]; done))) (cat_row (α := Int) (by first|rfl|omega|(simp only[szl]<;>first|rfl|omega)) (by first|rfl|omega|(simp only[szl]<;>first|rfl|omega)) (fun _ _ _ _ => Z)) (by first | omega | (simp only [szl]; omega) | (simp only [szl]; done)) (app_le c36 Z) Z Z Z
 exact ef_buildSlice (row ([r28] : List Int)) Z (Jl _ _ _ _ _ _ _ _ ⟨Z, Z⟩ (Part.one _ Z Z) Z Z (Parts.nil _)) Z Z Z Z
 exact (Qk _ _ _ _ _ Rem.p6 (Qk _ _ _ _ _ Rem.p7 (Ql _)))
 exact (Qk _ _ _ _ _ Rem.p8 (Ql _))
 intro hQ
 rintro _ ⟨β45, rfl⟩
 refine GoQ.qP Z Z (Qr Z Z) (GoQ.oneB Z Z Qq (ef_buildSlice (row ([r28] : List Int)) Z (Jl _ _ _ _ _ _ _ _ ⟨Z, Z⟩ (Part.one _ Z Z) Z Z (Parts.nil _)) Z Z Z Z) (Qk _ _ _ _ _ Rem.p8 (Ql _)) (fun β47 => ?_))
 refine GoQ.oneB Z Z Qq (ef_append Z Z Rem.p8 (Src.own Qy (by first | omega | (simp only [szl]; omega) | (simp only [szl]; done))) (cat_row (α := Int) (by first|rfl|omega|(simp only[szl]<;>first|rfl|omega)) (by first|rfl|omega|(simp only[szl]<;>first|rfl|omega)) (fun _ _ _ _ => Z)) (by first | omega | (simp only [szl]; omega) | (simp only [szl]; done)) (app_le c39 Z) Z Z Z) (Qk _ _ _ _ _ Rem.p8 (Qk _ _ _ _ _ Rem.p8 (Ql _))) (fun β48 => ?_)
 refine GoQ.last1 Z Qq (ef_store Z Z Z At.p9 upd_st1 Qf Z) (Qk _ _ _ _ _ Rem.p9 (Ql _)) (Qx Z (Qr Z Z) (GoP.one1 Z Qq (ef_store Z Z Z At.p9 upd_st1 Qf Z) (Qk _ _ _ _ _ Rem.p9 (Ql _)) ?_))
 exact GoP.done (hQ β45 β47 β48)
 intro hQ
 rintro _ ⟨β46, rfl⟩
 refine GoQ.oneB Z Z Qq (ef_append Z Z Rem.p7 (Src.own Js (by first | omega | (simp only [szl]; omega) | (simp only [szl]; done))) (cat_row (α := Int) (by first|rfl|omega|(simp only[szl]<;>first|rfl|omega)) (by first|rfl|omega|(simp only[szl]<;>first|rfl|omega)) (fun _ _ _ _ => Z)) (by first | omega | (simp only [szl]; omega) | (simp only [szl]; done)) (app_le c36 Z) Z Z Z) (Qk _ _ _ _ _ Rem.p7 (Qk _ _ _ _ _ Rem.p8 (Ql _))) (fun β49 => ?_)
 refine GoQ.qP Z Z (Qr Z Z) (GoQ.oneB Z Z Qq (ef_append Z Z Rem.p8 (Src.own Js (by first | omega | (simp only [szl]; omega) | (simp only [szl]; done))) (cat_row (α := Int) (by first|rfl|omega|(simp only[szl]<;>first|rfl|omega)) (by first|rfl|omega|(simp only[szl]<;>first|rfl|omega)) (fun _ _ _ _ => Z)) (by first | omega | (simp only [szl]; omega) | (simp only [szl]; done)) (app_le c39 Z) Z Z Z) (Qk _ _ _ _ _ Rem.p8 (Qk _ _ _ _ _ Rem.p8 (Ql _))) (fun β50 => ?_))
 refine GoQ.last1 Z Qq (ef_store Z Z Z At.p9 upd_st1 Qf Z) (Qk _ _ _ _ _ Rem.p9 (Ql _)) (Qx Z (Qr Z Z) (GoP.one1 Z Qq (ef_store Z Z Z At.p9 upd_st1 Qf Z) (Qk _ _ _ _ _ Rem.p9 (Ql _)) (GoP.done (GoK.le ?_ (hQ β49 β46 β50)))))
 refine Le.ofDW ?_ (Qn _ _ _ _ _ Qp (Qu _) (Qn _ _ _ _ _ Jk (Qu _) (Qn _ _ _ _ _ Qp (Qu _) (Qn _ _ _ _ _ Qp (Qu _) (Qn _ _ _ _ _ Qp (Qu _) (Qn _ _ _ _ _ Qp (Qu _) (Qn _ _ _ _ _ Qp (Qu _) (Qn _ _ _ _ _ Qp (Qu _) (Qn _ _ _ _ _ Qp (Qu _) (Qn _ _ _ _ _ Qp (Qu _) (Qn _ _ _ _ _ Qp (Qu _) (Jg _))))))))))))
 repeat (first | exact EnvLeW.nil | refine EnvLeW.cons rfl ?_ | refine EnvLeW.skip rfl ?_)
 intro β45 β47 β48
 exact (hQ β40 β45 β47 β48)
 intro hQ
 rintro _ ⟨β41, rfl⟩
 refine GoQ.oneB Z Z Qq (ef_buildSlice (row ([r27] : List Int)) Z (Jl _ _ _ _ _ _ _ _ ⟨Z, Z⟩ (Part.one _ Z Z) Z Z (Parts.nil _)) Z Z Z Z) (Qk _ _ _ _ _ Rem.p8 (Ql _)) (fun β51 => ?_)
 refine GoQ.oneB Z Z Qq (ef_append Z Z Rem.p7 (Src.own Qy (by first | omega | (simp only [szl]; omega) | (simp only [szl]; done))) (cat_row (α := Int) (by first|rfl|omega|(simp only[szl]<;>first|rfl|omega)) (by first|rfl|omega|(simp only[szl]<;>first|rfl|omega)) (fun _ _ _ _ => Z)) (by first | omega | (simp only [szl]; omega) | (simp only [szl]; done)) (app_le c36 Z) Z Z Z) (Qk _ _ _ _ _ Rem.p7 (Qk _ _ _ _ _ Rem.p8 (Ql _))) (fun β52 => ?_)
 refine GoQ.qP Z Z (Qr Z Z) (GoQ.oneB Z Z Qq (ef_append Z Z Rem.p8 (Src.own At.p2 (by first | omega | (simp only [szl]; omega) | (simp only [szl]; done))) (cat_row (α := Int) (by first|rfl|omega|(simp only[szl]<;>first|rfl|omega)) (by first|rfl|omega|(simp only[szl]<;>first|rfl|omega)) (fun _ _ _ _ => Z)) (by first | omega | (simp only [szl]; omega) | (simp only [szl]; done)) (app_le c39 Z) Z Z Z) (Qk _ _ _ _ _ Rem.p8 (Qk _ _ _ _ _ Rem.p8 (Ql _))) (fun β53 => ?_))
 refine GoQ.last1 Z Qq (ef_store Z Z Z At.p9 upd_st1 Qf Z) (Qk _ _ _ _ _ Rem.p9 (Ql _)) (Qx Z (Qr Z Z) (GoP.one1 Z Qq (ef_store Z Z Z At.p9 upd_st1 Qf Z) (Qk _ _ _ _ _ Rem.p9 (Ql _)) (GoP.done (GoK.le ?_ (hQ β51 β52 β41 β53)))))
 refine Le.ofDW ?_ (Qn _ _ _ _ _ Qp (Qu _) (Qn _ _ _ _ _ Rem.p2 (Qu _) (Qn _ _ _ _ _ Qp (Qu _) (Qn _ _ _ _ _ Qp (Qu _) (Qn _ _ _ _ _ Qp (Qu _) (Qn _ _ _ _ _ Qp (Qu _) (Qn _ _ _ _ _ Qp (Qu _) (Qn _ _ _ _ _ Qp (Qu _) (Qn _ _ _ _ _ Qp (Qu _) (Qn _ _ _ _ _ Qp (Qu _) (Qn _ _ _ _ _ Qp (Qu _) (Jg _))))))))))))
 repeat (first | exact EnvLeW.nil | refine EnvLeW.cons rfl ?_ | refine EnvLeW.skip rfl ?_)
 intro β40 β45 β47 β48
 refine GoK.blk (Qd (Qc (Qa (ps_add Z Z Z hIk24) (Qa (Qj Z Z) (Qm ?_)))))
 obtain rfl := Qg H
 exact GoK.againJ m25' (by omega) ⟨_, _, _, _, β31, β32, β33, β45, β48, ⟨by omega, hF19⟩, Z, Z⟩ (Qe Z (Qe Z (Qe Z (Qe Z (Qe Z (Qe Z (Jc))))))) (Qn _ _ _ _ _ Rem.p4 (Jh ⟨⟨⟨⟨⟨⟨⟨⟨Qq, Qb _⟩, Qb _⟩, Qb _⟩, Qb _⟩, Qb _⟩, Jq (by first|rfl|omega|(simp only [row_len, gridC_len, rowO_len] <;>first|rfl|omega))⟩, Jq (by first|rfl|omega|(simp only [row_len, gridC_len, rowO_len] <;>first|rfl|omega))⟩, Jq (by first|rfl|omega|(simp only [row_len, gridC_len, rowO_len] <;>first|rfl|omega))⟩) (Qn _ _ _ _ _ Rem.p4 (Qu _) (Qn _ _ _ _ _ Rem.p4 (Qu _) (Qn _ _ _ _ _ Rem.p4 (Qu _) (Qn _ _ _ _ _ Rem.p2 (Qu _) (Qn _ _ _ _ _ Qp (Qu _) (Qn _ _ _ _ _ Rem.p3 (Jh ⟨⟨⟨⟨⟨⟨Qq, Jq (by first|rfl|omega|(simp only [row_len, gridC_len, rowO_len, List.length_append, List.length_cons, List.length_nil] <;>first|rfl|omega))⟩, Jq (by first|rfl|omega|(simp only [row_len, gridC_len, rowO_len, List.length_append, List.length_cons, List.length_nil] <;>first|rfl|omega))⟩, Qb _⟩, Qb _⟩, Qb _⟩, Qb _⟩) (Qn _ _ _ _ _ Rem.p3 (Jh ⟨⟨⟨⟨⟨⟨Qq, Qb _⟩, Qb _⟩, Qb _⟩, Qb _⟩, Qb _⟩, Qb _⟩) (Jg _)))))))))
 obtain rfl : m25 = 0 := by omega
 refine GoC.exit Z ?_
 cases hF19
 exact GoK.meet ⟨β11, β12, β13, β14, β16, Z, Z⟩ (Qe Z (Qe Z (Qe Z (Jc)))) (Qn _ _ _ _ _ Qp (Jh ⟨⟨⟨⟨⟨⟨⟨⟨Qq, Qb _⟩, Qb _⟩, Qb _⟩, Qb _⟩, Qb _⟩, Jq (by first|rfl|omega|(simp only [row_len, gridC_len, rowO_len] <;>first|rfl|omega))⟩, Jq (by first|rfl|omega|(simp only [row_len, gridC_len, rowO_len] <;>first|rfl|omega))⟩, Jq (by first|rfl|omega|(simp only [row_len, gridC_len, rowO_len] <;>first|rfl|omega))⟩) (Qn _ _ _ _ _ Qp (Qu _) (Qn _ _ _ _ _ Qp (Qu _) (Qn _ _ _ _ _ Qp (Qu _) (Qn _ _ _ _ _ Qp (Qu _) (Qn _ _ _ _ _ Qp (Qu _) (Qn _ _ _ _ _ Qp (Jh ⟨⟨⟨⟨⟨⟨Qq, Jq (by first|rfl|omega|(simp only [row_len, gridC_len, rowO_len] <;>first|rfl|omega))⟩, Jq (by first|rfl|omega|(simp only [row_len, gridC_len, rowO_len] <;>first|rfl|omega))⟩, Qb _⟩, Qb _⟩, Qb _⟩, Qb _⟩) (Qn _ _ _ _ _ Qp (Jh ⟨⟨⟨⟨⟨⟨Qq, Qb _⟩, Qb _⟩, Qb _⟩, Qb _⟩, Qb _⟩, Qb _⟩) (Jg _)))))))))
 rintro v h ⟨β11, β12, β13, β14, β16, rfl, rfl⟩
 have H := HK18; clear HK18
 refine Qd (Qi (Qc (Qa (Qj Z Z) ?_)))
 have hb := bind_l H; clear H
 obtain ⟨⟨r55, x57⟩, e58, H⟩ := hb
 refine GoO.callF Z (Qk _ _ _ _ _ Qp (Qk _ _ _ _ _ Qp (Qk _ _ _ _ _ Qp (Qk _ _ _ _ _ Qp (Ql _))))) (Ql _) (store_Net_spec (⟨(⟨(⟨z21.now.net.n, z21.now.net.s, z21.now.net.t, z21.now.net.as⟩ : Net), z21.now.flow⟩ : StoreState), z21.old, z21.names, z21.saved⟩ : Store) β3 β11 β12 β13 e58) (Qt (Qo _ _) (Jj)) Z nil_fps (fun rr HH hp => ?_)
 obtain ⟨β56, β59, β60, β61, rfl, rfl⟩ := hp
 refine Qa (Qr Z Z) (GoO.eff1 (ef_storeAg Z Z At.p7 upd_stN Qf Z) (GoO.le (Le.reH At.p7 (Jh (g' := nth [.own β14 1 0 l22.length, .own β16 1 0 l23.length, .v (.int .i64 r55.n), .v (.int .i64 r55.s), .v (.int .i64 r55.t), .own β56 3 0 r55.as.length]) ⟨⟨⟨⟨⟨⟨Qq, Qb _⟩, Qb _⟩, Qb _⟩, Qb _⟩, Qb _⟩, Qb _⟩)) ?_))
 refine Qm (Qd (Qi (Qc (Qa (Jr Z At.p7 At.p7 Qf Z Z) (GoO.eff1 (ef_storeAg Z Z At.p8 upd_whole Qf Z) (Qm (Qd ?_)))))))
 obtain rfl := Qg H
 exact Ja (ds := [.ag 6 (nth [.own β14 1 0 l22.length, .own β16 1 0 l23.length, .v (.int .i64 r55.n), .v (.int .i64 r55.s), .v (.int .i64 r55.t), .own β56 3 0 r55.as.length])]) Try.results11 (Qs (ResD.le (ResD.cellAg Z At.p8 Qf Z) (by exact DLe.ag ⟨⟨⟨⟨⟨⟨Qq, Qb _⟩, Qb _⟩, Qb _⟩, Qb _⟩, Qb _⟩, Qb _⟩)) (Qz)) (Qk _ _ _ _ _ Rem.p5 (Qk _ _ _ _ _ Rem.p5 (Qk _ _ _ _ _ Qp (Ql _)))) ⟨β14, β16, β56, Z, Z⟩
end Go.Proofs.Ytkfmphlnpmemdaa.Sx.Y
