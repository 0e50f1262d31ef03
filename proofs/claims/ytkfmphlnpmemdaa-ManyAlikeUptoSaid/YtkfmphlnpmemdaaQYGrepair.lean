import Derived.Test.YtkfmphlnpmemdaaQTys
import Derived.Test.YtkfmphlnpmemdaaQDA
import Derived.Test.YtkfmphlnpmemdaaQYGmost
import Derived.Test.YtkfmphlnpmemdaaQYGflow
import Derived.Test.YtkfmphlnpmemdaaQYGslices
import Derived.Test.YtkfmphlnpmemdaaQCoN
set_option maxRecDepth 100000
set_option maxHeartbeats 4000000
set_option linter.unusedVariables false
set_option linter.unusedSimpArgs false
namespace Go.Proofs.Ytkfmphlnpmemdaa.Sx.Y
open Go Go.Proofs.Ytkfmphlnpmemdaa.Sx
theorem repair_Check_I (out : Int) : IndepP (repair_Check_P out) := IndepP.of (by rintro _ _ ⟨rfl, rfl⟩; exact ⟨inferInstance, inferInstance⟩)
theorem repair_Check_spec (n : Net) (f : (List Int)) {out : Int} (H : repair_Check_F n f = some out) : Does Try.prog 53 [.ag 4 (nth [.v (.int .i64 n.n), .v (.int .i64 n.s), .v (.int .i64 n.t), slD n.as]), slD f] [] (repair_Check_P out) := by
 unfold repair_Check_F at H
 refine Does.intro Try.func53 Z Try.ntmps53 Z fun w0 I0 tb0 => ?_
 refine Qi (Qc (Jm (ef_boxAg Z Z) (fun β1 => ?_)))
 refine Qa (Qh Z Z) (Qm (Qd (Qi (Qc (Qa (Jr Z Qy Qy Qf Z Z) (Qa (Qj Z Z) ?_))))))
 have hb := bind_l H; clear H
 obtain ⟨⟨r2, r3⟩, e4, H⟩ := hb
 refine GoO.effC (ef_call Z (Ql _) (Ql _) (flow_Value_spec n f e4) (Qt (Lend.agA ⟨⟨⟨⟨Qq, Qo _ _⟩, Qo _ _⟩, Qo _ _⟩, Qo _ _⟩) (Qt (Qo _ _) (Jj))) Z (flow_Value_I (r2, r3))) (fun rr HH hp => ?_)
 obtain ⟨rfl, rfl⟩ := hp
 refine Qa (Qj Z Z) ?_
 iterate 2 refine Qa (Jb Z Z Z) ?_
 iterate 2 refine Qa (Qh Z Z) ?_
 refine Qm (Qd (Qi (Qi (Qc (Qa (Qj Z Z) (Qa (ps_neq Z Z Z) (Qm (Qd (Jf Z (fun h5 => ?_) (fun h5 => ?_))))))))))
 replace H := ite_t h5 H
 refine Qi (Qc (Qa (Qj Z Z) (Qa (Qh Z Z) (Qm (Qd ?_)))))
 obtain rfl := Qg H
 exact Ja (ds := [.v (.int .i64 r3)]) Try.results53 (Qs (Qw Z) (Qz)) (Ql _) ⟨Z, Z⟩
 replace H := ite_f h5 H
 refine Ji (Qd (Qi (Qi (Qc (Qa (Jr Z Qy Qy Qf Z Z) ?_)))))
 have hb := bind_l H; clear H
 obtain ⟨⟨r6, r7, r8⟩, e9, H⟩ := hb
 refine GoO.effC (ef_call Z (Ql _) (Ql _) (cut_Least_spec n e9) (Qt (Lend.agA ⟨⟨⟨⟨Qq, Qo _ _⟩, Qo _ _⟩, Qo _ _⟩, Qo _ _⟩) (Jj)) Z (cut_Least_I (r6, r7, r8))) (fun rr HH hp => ?_)
 obtain ⟨rfl, rfl⟩ := hp
 refine Qa (Qj Z Z) ?_
 iterate 3 refine Qa (Jb Z Z Z) ?_
 iterate 3 refine Qa (Qh Z Z) ?_
 refine Qm (Qd (Qi (Qc ?_)))
 iterate 2 refine Qa (Qj Z Z) ?_
 refine Qa (ps_neq Z Z Z) (Qm (Qd (Jf Z (fun h10 => ?_) (fun h10 => ?_))))
 replace H := ite_t h10 H
 refine Qi (Qc (Qa (Qh Z Z) (Qm (Qd ?_))))
 obtain rfl := Qg H
 exact Ja (ds := [.v (.int .i64 9)]) Try.results53 (Qs (Qw Z) (Qz)) (Ql _) ⟨Z, Z⟩
 replace H := ite_f h10 H
 refine Ji (Qd (Qi (Qc (Qa (Qh Z Z) (Qm (Qd ?_))))))
 obtain rfl := Qg H
 exact Ja (ds := [.v (.int .i64 0)]) Try.results53 (Qs (Qw Z) (Qz)) (Ql _) ⟨Z, Z⟩
theorem repair_on_I (out : Net × (List Int) × Int × Int) : IndepP (repair_on_P out) := IndepP.of (by rintro _ _ ⟨β1, β2, rfl, rfl⟩; exact ⟨inferInstance, inferInstance⟩)
theorem repair_on_spec (n : Net) (f : (List Int)) {out : Net × (List Int) × Int × Int} (H : repair_on_F n f = some out) : Does Try.prog 54 [.ag 4 (nth [.v (.int .i64 n.n), .v (.int .i64 n.s), .v (.int .i64 n.t), slD n.as]), slD f] [] (repair_on_P out) := by
 unfold repair_on_F at H
 refine Does.intro Try.func54 Z Try.ntmps54 Z fun w0 I0 tb0 => ?_
 refine Qi (Qc (Jm (ef_boxAg Z Z) (fun β1 => ?_)))
 refine Jm (ef_alloc Z) (fun β2 => ?_)
 iterate 3 refine Qa (Qh Z Z) ?_
 refine Qm (Qd (Qi (Qc (Qa (Qr Z Z) (Qa (Jd Z Js Js Qf Z Z) ?_)))))
 have hb := bind_l H; clear H
 obtain ⟨r3, e5, H⟩ := hb
 refine GoO.effC (ef_call Z (Ql _) (Ql _) (slices_Clone_Arc_spec n.as e5) (Qt (Qo _ _) (Jj)) Z (slices_Clone_Arc_I (r3))) (fun rr HH hp => ?_)
 obtain ⟨β4, rfl, rfl⟩ := hp
 refine Qa (Qr Z Z) (GoO.eff1 (ef_store Z Z Z At.p2 upd_st1 Qf Z) (Qm (Qd (Qi (Qc (Qa (Jr Z At.p2 At.p2 Qf Z Z) (Qa (Qj Z Z) ?_)))))))
 have hb := bind_l H; clear H
 obtain ⟨⟨r6, r8, r9⟩, e10, H⟩ := hb
 refine GoO.effC (ef_call Z (Ql _) (Qk _ _ _ _ _ Qp (Ql _)) (most_More_spec (⟨n.n, n.s, n.t, r3⟩ : Net) f e10) (Qt (Lend.agA ⟨⟨⟨⟨Qq, Qo _ _⟩, Qo _ _⟩, Qo _ _⟩, Lend.all' Qy (by first|rfl|omega|(simp only[szl]<;>first|rfl|omega)) Z⟩) (Qt (Qo _ _) (Jj))) Z (most_More_I (r6, r8, r9))) (fun rr HH hp => ?_)
 obtain ⟨β7, rfl, rfl⟩ := hp
 refine Qa (Qj Z Z) ?_
 iterate 3 refine Qa (Jb Z Z Z) ?_
 iterate 3 refine Qa (Qh Z Z) ?_
 refine Qm (Qd (Qi (Qc (Qa (Jr Z At.p3 At.p3 Qf Z Z) ?_))))
 iterate 3 refine Qa (Qj Z Z) ?_
 refine GoO.eff1 (ef_storeAg Z Z At.p2 upd_whole Qf Z) ?_
 iterate 3 refine Qa (Qh Z Z) ?_
 refine Qm (Qd ?_)
 obtain rfl := Qg H
 exact Ja (ds := [.ag 4 (nth [.v (.int .i64 n.n), .v (.int .i64 n.s), .v (.int .i64 n.t), .own β4 3 0 r3.length]), .own β7 1 0 r6.length, .v (.int .i64 r8), .v (.int .i64 r9)]) Try.results54 (Qs (ResD.le (ResD.cellAg Z At.p2 Qf Z) (by exact DLe.ag ⟨⟨⟨⟨Qq, Qb _⟩, Qb _⟩, Qb _⟩, Qb _⟩)) (Qs (Qw Z) (Qs (Qw Z) (Qs (Qw Z) (Qz))))) (Qk _ _ _ _ _ Jk (Qk _ _ _ _ _ Qp (Ql _))) ⟨β4, β7, Z, Z⟩
theorem repair_Add_spec (n : Net) (f : (List Int)) (a : Arc) {out : Net × (List Int) × Int × Int} (H : repair_Add_F n f a = some out) : Does Try.prog 42 [.ag 4 (nth [.v (.int .i64 n.n), .v (.int .i64 n.s), .v (.int .i64 n.t), slD n.as]), slD f, .ag 3 (nth [.v (.int .i64 a.f), .v (.int .i64 a.t), .v (.int .i64 a.c)])] [] (repair_Add_P out) := by
 unfold repair_Add_F at H
 refine Does.intro Try.func42 Z Try.ntmps42 Z fun w0 I0 tb0 => ?_
 refine Qi (Qc (Jm (ef_boxAg Z Z) (fun β1 => ?_)))
 refine Jm (ef_boxAg Z Z) (fun β2 => ?_)
 refine Jm (ef_alloc Z) (fun β3 => ?_)
 iterate 3 refine Qa (Qh Z Z) ?_
 refine Qm (Qd (Qi (Qi (Qc (Qa (Jr Z At.p2 At.p2 Qf Z Z) (Qa (Qj Z Z) ?_))))))
 have hb := bind_l H; clear H
 obtain ⟨r4, e5, H⟩ := hb
 refine GoO.effC (ef_call Z (Ql _) (Ql _) (repair_Check_spec n f e5) (Qt (Lend.agA ⟨⟨⟨⟨Qq, Qo _ _⟩, Qo _ _⟩, Qo _ _⟩, Qo _ _⟩) (Qt (Qo _ _) (Jj))) Z (repair_Check_I (r4))) (fun rr HH hp => ?_)
 obtain ⟨rfl, rfl⟩ := hp
 refine Qa (Qh Z Z) (Qm (Qd (Qi (Qc (Qa (Qj Z Z) (Qa (ps_neq Z Z Z) (Qm (Qd (Jf Z (fun h6 => ?_) (fun h6 => ?_))))))))))
 replace H := ite_t h6 H
 refine Qi (Qc (Qa (ps_build (Parts.nil _) Z) (Qa (Qj Z Z) (GoO.eff1 (ef_storeAg Z Z Qy upd_whole Qf Z) ?_))))
 iterate 3 refine Qa (Qh Z Z) ?_
 refine Qm (Qd ?_)
 obtain rfl := Qg H
 refine GoC.le (le_row0 57 3 (row ([] : List Arc)) Z) ?_
 refine GoC.le (le_row0 3 1 (row ([] : List Int)) Z) ?_
 exact Ja (ds := [.ag 4 (nth [.v (.int .i64 0), .v (.int .i64 0), .v (.int .i64 0), .own ⟨0, 0, 0⟩ 3 0 0]), .own ⟨0, 0, 0⟩ 1 0 0, .v (.int .i64 0), .v (.int .i64 r4)]) Try.results42 (Qs (ResD.le (ResD.cellAg Z At.p2 Qf Z) (by exact DLe.ag ⟨⟨⟨⟨Qq, Qb _⟩, Qb _⟩, Qb _⟩, DLe.nilOwn⟩)) (Qs (ResD.le (Qw Z) (by exact DLe.nilOwn)) (Qs (Qw Z) (Qs (Qw Z) (Qz))))) (Qk _ _ _ _ _ Jk (Qk _ _ _ _ _ Qp (Ql _))) ⟨⟨0, 0, 0⟩, ⟨0, 0, 0⟩, Z, Z⟩
 replace H := ite_f h6 H
 refine Ji (Qd (Qi (GoC.drawP (.q 0 (.q 3 (.two 1 4 (.two 2 4 (.one 4 (.one 5 (.q 6 (.one 7 (.done))))) (.one 2 (.one 5 (.q 6 (.one 7 (.done)))))) (.one 1 (.one 2 (.one 5 (.q 6 (.one 7 (.done))))))))) [(5, _, _, _)] follows (by kernel_rfl) (Qk _ _ _ _ _ Jk (Ql _)) ?_)))
 refine Qx Z (Qr Z Z) (Qx Z (Jr Z Js Qy Qf Z Z) ?_)
 have hb := bind_l H; clear H
 obtain ⟨r7, e9, H⟩ := hb
 have c12 := ck_l H; replace H := ck_r H
 apply GoP.fork3
 exact Z
 exact Z
 exact Qq
 exact Qq
 exact Eff.pure (H1 := [.one β3 35 4 (st1 (nth [.v (.int .i64 0), .v (.int .i64 0), .v (.int .i64 0), .v (.slice none 0 0)])), .one β2 57 3 (st1 (nth [.v (.int .i64 a.f), .v (.int .i64 a.t), .v (.int .i64 a.c)])), .one β1 35 4 (st1 (nth [.v (.int .i64 n.n), .v (.int .i64 n.s), .v (.int .i64 n.t), slD n.as]))]) (Jd Z At.p2 At.p2 Qf Z Z)
 exact ef_buildSlice (row ([a] : List Arc)) Z (Jl _ _ _ _ _ _ _ _ ⟨Z, Z⟩ (Part.ag _ _ Z) Z Z (Parts.nil _)) Z Z Z Z
 exact (Qk _ _ _ _ _ Jk (Ql _))
 exact (Qk _ _ _ _ _ Jk (Ql _))
 intro hQ
 rintro _ rfl
 apply GoP.fork3
 exact Z
 exact Z
 exact Qq
 exact Qq
 exact ef_call Z (Ql _) (Ql _) (slices_Clone_Arc_spec n.as e9) (Qt (Qo _ _) (Jj)) Z (slices_Clone_Arc_I (r7))
 exact ef_buildSlice (row ([a] : List Arc)) Z (Jl _ _ _ _ _ _ _ _ ⟨Z, Z⟩ (Part.ag _ _ Z) Z Z (Parts.nil _)) Z Z Z Z
 exact (Qk _ _ _ _ _ Jk (Ql _))
 exact (Qk _ _ _ _ _ Jk (Ql _))
 intro hQ
 rintro _ ⟨_, _, hp, rfl⟩
 obtain ⟨β8, rfl, rfl⟩ := hp
 refine GoP.oneB Z Qq (ef_buildSlice (row ([a] : List Arc)) Z (Jl _ _ _ _ _ _ _ _ ⟨Z, Z⟩ (Part.ag _ _ Z) Z Z (Parts.nil _)) Z Z Z Z) (Qk _ _ _ _ _ Rem.p2 (Ql _)) (fun β17 => ?_)
 refine GoP.oneB Z Qq (ef_append Z Z Jk (Src.own Qy (by first | omega | (simp only [szl]; omega) | (simp only [szl]; done))) (cat_row (α := Arc) (by first|rfl|omega|(simp only[szl]<;>first|rfl|omega)) (by first|rfl|omega|(simp only[szl]<;>first|rfl|omega)) (fun _ _ _ _ => Z)) (by first | omega | (simp only [szl]; omega) | (simp only [szl]; done)) (app_le c12 Z) Z Z Z) (Qk _ _ _ _ _ Jk (Qk _ _ _ _ _ Rem.p2 (Ql _))) (fun β18 => ?_)
 refine Qx Z (Qr Z Z) (GoP.one1 Z Qq (ef_store Z Z Z At.p4 upd_st1 Qf Z) (Qk _ _ _ _ _ Rem.p4 (Qk _ _ _ _ _ Rem.p3 (Ql _))) ?_)
 exact GoP.done (hQ β8 β17 β18)
 intro hQ
 rintro _ ⟨β16, rfl⟩
 refine GoP.oneC Z Qq (ef_call Z (Ql _) (Ql _) (slices_Clone_Arc_spec n.as e9) (Qt (Qo _ _) (Jj)) Z (slices_Clone_Arc_I (r7))) (Qk _ _ _ _ _ Rem.p2 (Ql _)) (fun rr HH hp => ?_)
 obtain ⟨β8, rfl, rfl⟩ := hp
 refine GoP.oneB Z Qq (ef_append Z Z Qp (Src.own Js (by first | omega | (simp only [szl]; omega) | (simp only [szl]; done))) (cat_row (α := Arc) (by first|rfl|omega|(simp only[szl]<;>first|rfl|omega)) (by first|rfl|omega|(simp only[szl]<;>first|rfl|omega)) (fun _ _ _ _ => Z)) (by first | omega | (simp only [szl]; omega) | (simp only [szl]; done)) (app_le c12 Z) Z Z Z) (Qk _ _ _ _ _ Qp (Qk _ _ _ _ _ Rem.p2 (Ql _))) (fun β19 => ?_)
 refine Qx Z (Qr Z Z) (GoP.one1 Z Qq (ef_store Z Z Z At.p4 upd_st1 Qf Z) (Qk _ _ _ _ _ Rem.p4 (Qk _ _ _ _ _ Rem.p3 (Ql _))) (GoP.done (GoK.le ?_ (hQ β8 β16 β19))))
 refine Le.ofDW ?_ (Qn _ _ _ _ _ Qp (Qu _) (Qn _ _ _ _ _ Qp (Qu _) (Qn _ _ _ _ _ Qp (Qu _) (Qn _ _ _ _ _ Qp (Qu _) (Qn _ _ _ _ _ Qp (Qu _) (Jg _))))))
 repeat (first | exact EnvLeW.nil | refine EnvLeW.cons rfl ?_ | refine EnvLeW.skip rfl ?_)
 intro β8 β17 β18
 exact (hQ β8 β17 β18)
 intro hQ
 rintro _ ⟨β13, rfl⟩
 refine GoP.oneN Z (Jd Z At.p3 At.p3 Qf Z Z) (Qk _ _ _ _ _ Rem.p2 (Ql _)) (GoP.oneC Z Qq (ef_call Z (Ql _) (Ql _) (slices_Clone_Arc_spec n.as e9) (Qt (Qo _ _) (Jj)) Z (slices_Clone_Arc_I (r7))) (Qk _ _ _ _ _ Rem.p2 (Ql _)) (fun rr HH hp => ?_))
 obtain ⟨β8, rfl, rfl⟩ := hp
 refine GoP.oneB Z Qq (ef_append Z Z Qp (Src.own Js (by first | omega | (simp only [szl]; omega) | (simp only [szl]; done))) (cat_row (α := Arc) (by first|rfl|omega|(simp only[szl]<;>first|rfl|omega)) (by first|rfl|omega|(simp only[szl]<;>first|rfl|omega)) (fun _ _ _ _ => Z)) (by first | omega | (simp only [szl]; omega) | (simp only [szl]; done)) (app_le c12 Z) Z Z Z) (Qk _ _ _ _ _ Qp (Qk _ _ _ _ _ Rem.p2 (Ql _))) (fun β20 => ?_)
 refine Qx Z (Qr Z Z) (GoP.one1 Z Qq (ef_store Z Z Z At.p4 upd_st1 Qf Z) (Qk _ _ _ _ _ Rem.p4 (Qk _ _ _ _ _ Rem.p3 (Ql _))) (GoP.done (GoK.le ?_ (hQ β8 β13 β20))))
 refine Le.ofDW ?_ (Qn _ _ _ _ _ Qp (Qu _) (Qn _ _ _ _ _ Qp (Qu _) (Qn _ _ _ _ _ Qp (Qu _) (Qn _ _ _ _ _ Qp (Qu _) (Qn _ _ _ _ _ Qp (Qu _) (Jg _))))))
 repeat (first | exact EnvLeW.nil | refine EnvLeW.cons rfl ?_ | refine EnvLeW.skip rfl ?_)
 intro β8 β17 β18
 refine Qd (Qi (Qi (Qc (Qa (Jr Z At.p4 At.p4 Qf Z Z) ?_))))
 have hb := bind_l H; clear H
 obtain ⟨r21, e22, H⟩ := hb
 refine GoO.effC (ef_call Z (Ql _) (Qk _ _ _ _ _ Qp (Ql _)) (graph_CheckNet_spec (⟨n.n, n.s, n.t, (r7 ++ ([a] : List Arc))⟩ : Net) e22) (Qt (Lend.agA ⟨⟨⟨⟨Qq, Qo _ _⟩, Qo _ _⟩, Qo _ _⟩, Lend.all' Qy (by first|rfl|omega|(simp only[szl]<;>first|rfl|omega)) Z⟩) (Jj)) Z (graph_CheckNet_I (r21))) (fun rr HH hp => ?_)
 obtain ⟨rfl, rfl⟩ := hp
 refine Qa (Qh Z Z) (Qm (Qd (Qi (Qc (Qa (Qj Z Z) (Qa (ps_neq Z Z Z) (Qm (Qd (Jf Z (fun h23 => ?_) (fun h23 => ?_))))))))))
 replace H := ite_t h23 H
 refine Qi (Qc (Qa (ps_build (Parts.nil _) Z) (Qa (Qj Z Z) (GoO.eff1 (ef_storeAg Z Z At.p2 upd_whole Qf Z) ?_))))
 iterate 3 refine Qa (Qh Z Z) ?_
 refine Qm (Qd ?_)
 obtain rfl := Qg H
 refine GoC.le (le_row0 57 3 (row ([] : List Arc)) Z) ?_
 refine GoC.le (le_row0 3 1 (row ([] : List Int)) Z) ?_
 exact Ja (ds := [.ag 4 (nth [.v (.int .i64 0), .v (.int .i64 0), .v (.int .i64 0), .own ⟨0, 0, 0⟩ 3 0 0]), .own ⟨0, 0, 0⟩ 1 0 0, .v (.int .i64 0), .v (.int .i64 r21)]) Try.results42 (Qs (ResD.le (ResD.cellAg Z At.p4 Qf Z) (by exact DLe.ag ⟨⟨⟨⟨Qq, Qb _⟩, Qb _⟩, Qb _⟩, DLe.nilOwn⟩)) (Qs (ResD.le (Qw Z) (by exact DLe.nilOwn)) (Qs (Qw Z) (Qs (Qw Z) (Qz))))) (Qk _ _ _ _ _ Jk (Qk _ _ _ _ _ Qp (Ql _))) ⟨⟨0, 0, 0⟩, ⟨0, 0, 0⟩, Z, Z⟩
 replace H := ite_f h23 H
 refine Ji (Qd (Qi (GoC.drawP (.q 0 (.q 1 (.two 2 3 (.one 3 (.one 4 (.one 5 (.q 6 (.q 7 (.q 8 (.q 9 (.one 10 (.q 11 (.q 12 (.q 13 (.done)))))))))))) (.one 2 (.one 4 (.one 5 (.q 6 (.q 7 (.q 8 (.q 9 (.one 10 (.q 11 (.q 12 (.q 13 (.done))))))))))))))) [(3, _, _, _)] follows (by kernel_rfl) (Qk _ _ _ _ _ Rem.p4 (Ql _)) ?_)))
 refine Qx Z (Jr Z At.p4 Qy Qf Z Z) (Qx Z (Qj Z Z) ?_)
 have hb := bind_l H; clear H
 obtain ⟨r24, e26, H⟩ := hb
 have c29 := ck_l H; replace H := ck_r H
 have hb := bind_l H; clear H
 obtain ⟨⟨r30, r32, r34, r35⟩, e36, H⟩ := hb
 apply GoP.fork5
 exact Z
 exact Z
 exact Qq
 exact Qq
 exact ef_call Z (Ql _) (Ql _) (slices_Clone_int_spec f e26) (Qt (Qo _ _) (Jj)) Z (slices_Clone_int_I (r24))
 exact ef_buildSlice (row ([0] : List Int)) Z (Jl _ _ _ _ _ _ _ _ ⟨Z, Z⟩ (Part.one _ Z Z) Z Z (Parts.nil _)) Z Z Z Z
 exact (Qk _ _ _ _ _ Rem.p4 (Ql _))
 exact (Qk _ _ _ _ _ Rem.p4 (Ql _))
 intro hQ
 rintro _ ⟨_, _, hp, rfl⟩
 obtain ⟨β25, rfl, rfl⟩ := hp
 refine GoP.oneB Z Qq (ef_buildSlice (row ([0] : List Int)) Z (Jl _ _ _ _ _ _ _ _ ⟨Z, Z⟩ (Part.one _ Z Z) Z Z (Parts.nil _)) Z Z Z Z) (Qk _ _ _ _ _ Rem.p5 (Ql _)) (fun β38 => ?_)
 refine GoP.oneB Z Qq (ef_append Z Z Jk (Src.own Qy (by first | omega | (simp only [szl]; omega) | (simp only [szl]; done))) (cat_row (α := Int) (by first|rfl|omega|(simp only[szl]<;>first|rfl|omega)) (by first|rfl|omega|(simp only[szl]<;>first|rfl|omega)) (fun _ _ _ _ => Z)) (by first | omega | (simp only [szl]; omega) | (simp only [szl]; done)) (app_le c29 Z) Z Z Z) (Qk _ _ _ _ _ Jk (Qk _ _ _ _ _ Rem.p5 (Ql _))) (fun β39 => ?_)
 refine GoP.oneC Z Qq (ef_call Z (Ql _) (Qk _ _ _ _ _ Rem.p2 (Qk _ _ _ _ _ Qp (Ql _))) (repair_on_spec (⟨n.n, n.s, n.t, (r7 ++ ([a] : List Arc))⟩ : Net) (r24 ++ ([0] : List Int)) e36) (Qt (Lend.agA ⟨⟨⟨⟨Qq, Qo _ _⟩, Qo _ _⟩, Qo _ _⟩, Lend.all' Qy (by first|rfl|omega|(simp only[szl]<;>first|rfl|omega)) Z⟩) (Qt (Lend.all' Js (by first|rfl|omega|(simp only[szl]<;>first|rfl|omega)) Z) (Jj))) Z (repair_on_I (r30, r32, r34, r35))) (Qk _ _ _ _ _ Rem.p6 (Ql _)) (fun rr HH hp => ?_)
 obtain ⟨β31, β33, rfl, rfl⟩ := hp
 iterate 4 refine Qx Z (Jb Z Z Z) ?_
 refine GoP.one1 Z Qq (ef_storeAg Z Z At.p6 upd_whole Qf Z) (Qk _ _ _ _ _ Rem.p6 (Qk _ _ _ _ _ Rem.p7 (Ql _))) ?_
 iterate 3 refine Qx Z (Qh Z Z) ?_
 exact GoP.done (hQ β25 β38 β39 β31 β33)
 intro hQ
 rintro _ ⟨β37, rfl⟩
 refine GoP.oneC Z Qq (ef_call Z (Ql _) (Ql _) (slices_Clone_int_spec f e26) (Qt (Qo _ _) (Jj)) Z (slices_Clone_int_I (r24))) (Qk _ _ _ _ _ Rem.p5 (Ql _)) (fun rr HH hp => ?_)
 obtain ⟨β25, rfl, rfl⟩ := hp
 refine GoP.oneB Z Qq (ef_append Z Z Qp (Src.own Js (by first | omega | (simp only [szl]; omega) | (simp only [szl]; done))) (cat_row (α := Int) (by first|rfl|omega|(simp only[szl]<;>first|rfl|omega)) (by first|rfl|omega|(simp only[szl]<;>first|rfl|omega)) (fun _ _ _ _ => Z)) (by first | omega | (simp only [szl]; omega) | (simp only [szl]; done)) (app_le c29 Z) Z Z Z) (Qk _ _ _ _ _ Qp (Qk _ _ _ _ _ Rem.p5 (Ql _))) (fun β40 => ?_)
 refine GoP.oneC Z Qq (ef_call Z (Ql _) (Qk _ _ _ _ _ Rem.p2 (Qk _ _ _ _ _ Qp (Ql _))) (repair_on_spec (⟨n.n, n.s, n.t, (r7 ++ ([a] : List Arc))⟩ : Net) (r24 ++ ([0] : List Int)) e36) (Qt (Lend.agA ⟨⟨⟨⟨Qq, Qo _ _⟩, Qo _ _⟩, Qo _ _⟩, Lend.all' Qy (by first|rfl|omega|(simp only[szl]<;>first|rfl|omega)) Z⟩) (Qt (Lend.all' Js (by first|rfl|omega|(simp only[szl]<;>first|rfl|omega)) Z) (Jj))) Z (repair_on_I (r30, r32, r34, r35))) (Qk _ _ _ _ _ Rem.p6 (Ql _)) (fun rr HH hp => ?_)
 obtain ⟨β31, β33, rfl, rfl⟩ := hp
 iterate 4 refine Qx Z (Jb Z Z Z) ?_
 refine GoP.one1 Z Qq (ef_storeAg Z Z At.p6 upd_whole Qf Z) (Qk _ _ _ _ _ Rem.p6 (Qk _ _ _ _ _ Rem.p7 (Ql _))) ?_
 iterate 3 refine Qx Z (Qh Z Z) ?_
 refine GoP.done (GoK.le ?_ (hQ β25 β37 β40 β31 β33))
 refine Le.ofDW ?_ (Qn _ _ _ _ _ Qp (Qu _) (Qn _ _ _ _ _ Qp (Qu _) (Qn _ _ _ _ _ Qp (Qu _) (Qn _ _ _ _ _ Qp (Qu _) (Qn _ _ _ _ _ Qp (Qu _) (Qn _ _ _ _ _ Qp (Qu _) (Qn _ _ _ _ _ Qp (Qu _) (Qn _ _ _ _ _ Qp (Qu _) (Qn _ _ _ _ _ Qp (Qu _) (Jg _))))))))))
 repeat (first | exact EnvLeW.nil | refine EnvLeW.cons rfl ?_ | refine EnvLeW.skip rfl ?_)
 intro β25 β38 β39 β31 β33
 refine Qd ?_
 obtain rfl := Qg H
 exact Ja (ds := [.ag 4 (nth [.v (.int .i64 r30.n), .v (.int .i64 r30.s), .v (.int .i64 r30.t), .own β31 3 0 r30.as.length]), .own β33 1 0 r32.length, .v (.int .i64 r34), .v (.int .i64 r35)]) Try.results42 (Qs (ResD.le (ResD.cellAg Z At.p6 Qf Z) (by exact DLe.ag ⟨⟨⟨⟨Qq, Qb _⟩, Qb _⟩, Qb _⟩, Qb _⟩)) (Qs (Qw Z) (Qs (Qw Z) (Qs (Qw Z) (Qz))))) (Qk _ _ _ _ _ Qp (Qk _ _ _ _ _ Qp (Ql _))) ⟨β31, β33, Z, Z⟩
theorem repair_Add_specF (n : Net) (f : (List Int)) (a : Arc) {out : Net × (List Int) × Int × Int} (H : repair_Add_F n f a = some out) : Does Try.prog 42 [.ag 4 (nth [.v (.int .i64 n.n), .v (.int .i64 n.s), .v (.int .i64 n.t), slD n.as]), slD f, .ag 3 (nth [.v (.int .i64 a.f), .v (.int .i64 a.t), .v (.int .i64 a.c)])] [] (repair_Add_PF out) :=
 Does.freeze (repair_Add_spec n f a H) fun d H hp => by
  obtain ⟨β1, β2, rfl, rfl⟩ := hp
  exact ⟨_, ⟨Z, Z⟩, Lend.tpL (Qt (Lend.agA ⟨⟨⟨⟨Qq, Qo _ _⟩, Qo _ _⟩, Qo _ _⟩, Lend.all' Qy Z Z⟩) (Qt (Lend.all' Js Z Z) (Qt (Qo _ _) (Qt (Qo _ _) (Jj)))))⟩
theorem repair_Cap_I (out : Net × (List Int) × Int × Int) : IndepP (repair_Cap_P out) := IndepP.of (by rintro _ _ ⟨β1, β2, rfl, rfl⟩; exact ⟨inferInstance, inferInstance⟩)
theorem repair_Cap_spec (n : Net) (f : (List Int)) (k : Int) (takes : Int) {out : Net × (List Int) × Int × Int} (H : repair_Cap_F n f k takes = some out) : Does Try.prog 43 [.ag 4 (nth [.v (.int .i64 n.n), .v (.int .i64 n.s), .v (.int .i64 n.t), slD n.as]), slD f, .v (.int .i64 k), .v (.int .i64 takes)] [] (repair_Cap_P out) := by
 unfold repair_Cap_F at H
 refine Does.intro Try.func43 Z Try.ntmps43 Z fun w0 I0 tb0 => ?_
 refine Qi (Qc (Jm (ef_boxAg Z Z) (fun β1 => ?_)))
 refine Jm (ef_alloc Z) (fun β2 => ?_)
 iterate 3 refine Qa (Qh Z Z) ?_
 refine Qm (Qd (Qi (Qi (Qc (Qa (Jr Z Js Js Qf Z Z) (Qa (Qj Z Z) ?_))))))
 have hb := bind_l H; clear H
 obtain ⟨r3, e4, H⟩ := hb
 refine GoO.effC (ef_call Z (Ql _) (Ql _) (repair_Check_spec n f e4) (Qt (Lend.agA ⟨⟨⟨⟨Qq, Qo _ _⟩, Qo _ _⟩, Qo _ _⟩, Qo _ _⟩) (Qt (Qo _ _) (Jj))) Z (repair_Check_I (r3))) (fun rr HH hp => ?_)
 obtain ⟨rfl, rfl⟩ := hp
 refine Qa (Qh Z Z) (Qm (Qd (Qi (Qc (Qa (Qj Z Z) (Qa (ps_neq Z Z Z) (Qm (Qd (Jf Z (fun h5 => ?_) (fun h5 => ?_))))))))))
 replace H := ite_t h5 H
 refine Qi (Qc (Qa (ps_build (Parts.nil _) Z) (Qa (Qj Z Z) (GoO.eff1 (ef_storeAg Z Z Qy upd_whole Qf Z) ?_))))
 iterate 3 refine Qa (Qh Z Z) ?_
 refine Qm (Qd ?_)
 obtain rfl := Qg H
 refine GoC.le (le_row0 57 3 (row ([] : List Arc)) Z) ?_
 refine GoC.le (le_row0 3 1 (row ([] : List Int)) Z) ?_
 exact Ja (ds := [.ag 4 (nth [.v (.int .i64 0), .v (.int .i64 0), .v (.int .i64 0), .own ⟨0, 0, 0⟩ 3 0 0]), .own ⟨0, 0, 0⟩ 1 0 0, .v (.int .i64 0), .v (.int .i64 r3)]) Try.results43 (Qs (ResD.le (ResD.cellAg Z At.p2 Qf Z) (by exact DLe.ag ⟨⟨⟨⟨Qq, Qb _⟩, Qb _⟩, Qb _⟩, DLe.nilOwn⟩)) (Qs (ResD.le (Qw Z) (by exact DLe.nilOwn)) (Qs (Qw Z) (Qs (Qw Z) (Qz))))) (Qk _ _ _ _ _ Jk (Qk _ _ _ _ _ Qp (Ql _))) ⟨⟨0, 0, 0⟩, ⟨0, 0, 0⟩, Z, Z⟩
 replace H := ite_f h5 H
 refine Ji (Qd (Qi (Qi (Qc (Qa (Qj Z Z) (Qa (ps_lss Z Z Z) (Qa (Qj Z Z) (GoO.guardE Z Z Z Z (fun h6 => ?_) (fun h6 => ?_)))))))))
 replace H := ite_f h6 H
 refine Qa (Qj Z Z) (Je Z Z Z (Qa (Qr Z Z) (Je Z Z Z (Qa (Jd Z Js Js Qf Z Z) (Je Z Z Z ?_)))))
 refine Qa (ps_len Z (by constructor) Z) ?_
 refine GoO.lenLe (n := n.as.length) (x := .tmp 33) Z (by constructor) sl_lenLe (fun ml7 => ?_)
 refine Je Z Z Z (Qa (ps_geq Z Z Z) (Qa (ps_pickF Z Z Z) (Qm (Qd (Jf Z (fun h8 => ?_) (fun h8 => ?_))))))
 replace H := ite_t h8 H
 refine Qi (Qc (Qa (ps_build (Parts.nil _) Z) (GoO.eff1 (ef_storeAg Z Z Qy upd_whole Qf Z) ?_)))
 iterate 3 refine Qa (Qh Z Z) ?_
 refine Qm (Qd ?_)
 obtain rfl := Qg H
 refine GoC.le (le_row0 57 3 (row ([] : List Arc)) Z) ?_
 refine GoC.le (le_row0 3 1 (row ([] : List Int)) Z) ?_
 exact Ja (ds := [.ag 4 (nth [.v (.int .i64 0), .v (.int .i64 0), .v (.int .i64 0), .own ⟨0, 0, 0⟩ 3 0 0]), .own ⟨0, 0, 0⟩ 1 0 0, .v (.int .i64 0), .v (.int .i64 5)]) Try.results43 (Qs (ResD.le (ResD.cellAg Z At.p2 Qf Z) (by exact DLe.ag ⟨⟨⟨⟨Qq, Qb _⟩, Qb _⟩, Qb _⟩, DLe.nilOwn⟩)) (Qs (ResD.le (Qw Z) (by exact DLe.nilOwn)) (Qs (Qw Z) (Qs (Qw Z) (Qz))))) (Qk _ _ _ _ _ Jk (Qk _ _ _ _ _ Qp (Ql _))) ⟨⟨0, 0, 0⟩, ⟨0, 0, 0⟩, Z, Z⟩
 replace H := ite_f h8 H
 refine Ji (Qd (Qi (Qi (Qc (Qa (Qj Z Z) (Qa (ps_lss Z Z Z) (Qa (Qj Z Z) (GoO.guardE Z Z Z Z (fun h9 => ?_) (fun h9 => ?_)))))))))
 replace H := ite_f h9 H
 refine Qa (Qj Z Z) (Je Z Z Z (Qa (ps_gtr Z Z Z) (Qa (ps_pickF Z Z Z) (Qm (Qd (Jf Z (fun h10 => ?_) (fun h10 => ?_)))))))
 replace H := ite_t h10 H
 refine Qi (Qc (Qa (ps_build (Parts.nil _) Z) (GoO.eff1 (ef_storeAg Z Z Qy upd_whole Qf Z) ?_)))
 iterate 3 refine Qa (Qh Z Z) ?_
 refine Qm (Qd ?_)
 obtain rfl := Qg H
 refine GoC.le (le_row0 57 3 (row ([] : List Arc)) Z) ?_
 refine GoC.le (le_row0 3 1 (row ([] : List Int)) Z) ?_
 exact Ja (ds := [.ag 4 (nth [.v (.int .i64 0), .v (.int .i64 0), .v (.int .i64 0), .own ⟨0, 0, 0⟩ 3 0 0]), .own ⟨0, 0, 0⟩ 1 0 0, .v (.int .i64 0), .v (.int .i64 1)]) Try.results43 (Qs (ResD.le (ResD.cellAg Z At.p2 Qf Z) (by exact DLe.ag ⟨⟨⟨⟨Qq, Qb _⟩, Qb _⟩, Qb _⟩, DLe.nilOwn⟩)) (Qs (ResD.le (Qw Z) (by exact DLe.nilOwn)) (Qs (Qw Z) (Qs (Qw Z) (Qz))))) (Qk _ _ _ _ _ Jk (Qk _ _ _ _ _ Qp (Ql _))) ⟨⟨0, 0, 0⟩, ⟨0, 0, 0⟩, Z, Z⟩
 replace H := ite_f h10 H
 refine Ji (Qd (Qi (Qc (Qa (Jr Z Js Js Qf Z Z) (Qa (Qj Z Z) ?_)))))
 have hb := bind_l H; clear H
 obtain ⟨⟨r11, r13, r15⟩, e16, H⟩ := hb
 refine GoO.callF Z (Ql _) (Ql _) (flow_Split_spec n f e16) (Qt (Lend.agA ⟨⟨⟨⟨Qq, Qo _ _⟩, Qo _ _⟩, Qo _ _⟩, Qo _ _⟩) (Qt (Qo _ _) (Jj))) Z nil_fps (fun rr HH hp => ?_)
 obtain ⟨β12, β14, rfl, rfl⟩ := hp
 refine Qa (Qj Z Z) ?_
 iterate 3 refine Qa (Jb Z Z Z) ?_
 iterate 3 refine Qa (Qh Z Z) ?_
 refine Qm (Qd (Qi (Qc (Qa (Qj Z Z) ?_))))
 have hb := bind_l H; clear H
 obtain ⟨r17, e19, H⟩ := hb
 refine GoO.effC (ef_call Z (Ql _) (Ql _) (slices_Clone_int_spec f e19) (Qt (Qo _ _) (Jj)) Z (slices_Clone_int_I (r17))) (fun rr HH hp => ?_)
 obtain ⟨β18, rfl, rfl⟩ := hp
 refine Qa (Qh Z Z) (Qm (Qd (Qi (Qi (Qc ?_)))))
 iterate 2 refine Qa (Qj Z Z) ?_
 refine GoO.freezeJ (j := 54) Z Rem.p2 (Lend.all' Qy (by first|rfl|omega|(simp only [row_len, gridC_len, rowO_len] <;>first|rfl|omega)) Z) no_fps ?_
 refine GoO.freezeJ (j := 55) Z Jk (Lend.all' Qy (by first|rfl|omega|(simp only [row_len, gridC_len, rowO_len] <;>first|rfl|omega)) Z) no_fps ?_
 refine Jm (ef_buildSlice (row ([r13, r11] : List (List Piece))) Z (Jl _ _ _ _ _ _ _ _ ⟨Z, Z⟩ (Part.one _ Z Z) Z Z (Jl _ _ _ _ _ _ _ _ ⟨Z, Z⟩ (Part.one _ Z Z) Z Z (Parts.nil _))) Z Z Z Z) (fun β20 => ?_)
 have hb := bind_l H; clear H
 obtain ⟨r21, e23, H⟩ := hb
 refine GoO.callF Z (Ql _) (Qk _ _ _ _ _ Qp (Ql _)) (slices_Concat_Piece_spec ([r13, r11] : List (List Piece)) e23) (Qt (Lend.all' Qy (by first|rfl|omega|(simp only[szl]<;>first|rfl|omega)) Z) (Jj)) Z no_fps (fun rr HH hp => ?_)
 obtain ⟨β22, rfl, rfl⟩ := hp
 refine Qa (ps_len Z (by constructor) Z) ?_
 refine GoO.lenLe (n := r21.length) (x := .tmp 57) Z (by constructor) own_lenLe (fun ml24 => ?_)
 refine Qa (Qj Z Z) (Qm (Qd ?_))
 have hb := bind_l H; clear H
 obtain ⟨l29, hl49, HK26⟩ := hb
 refine GoC.blockJ [(2, .v (.int .i64 k)), (3, .v (.int .i64 takes)), (4, .ptr β1 4 0 0), (8, .ptr β2 4 0 0)] [.one β22 115 2 (row r21), .one β2 35 4 (st1 (nth [.v (.int .i64 0), .v (.int .i64 0), .v (.int .i64 0), .v (.slice none 0 0)])), .one β1 35 4 (st1 (nth [.v (.int .i64 n.n), .v (.int .i64 n.s), .v (.int .i64 n.t), slD n.as]))] (fun v h => v = [(1, .own β18 1 0 l29.length)] ∧ h = [.one β18 3 1 (row l29)]) ?_ ?_
 refine GoC.loopJ [(2, _), (3, _), (4, _), (8, _), (57, _), (58, _)] [.one β22 115 2 (row r21), .one β2 35 4 (st1 (nth [.v (.int .i64 0), .v (.int .i64 0), .v (.int .i64 0), .v (.slice none 0 0)])), .one β1 35 4 (st1 (nth [.v (.int .i64 n.n), .v (.int .i64 n.s), .v (.int .i64 n.t), slD n.as]))] (fun mQ v h => ∃ (k30 : Nat) (l25 : (List Int)), (k30 + mQ = r21.length ∧ forN (repair_Cap_B1 k takes r21) mQ k30 l25 = some l29) ∧ v = [(59, .v (.int .i64 ((k30 : Nat) : Int))), (1, .own β18 1 0 l25.length)] ∧ h = [.one β18 3 1 (row l25)]) r21.length ⟨_, _, ⟨by omega, hl49⟩, Z, Z⟩ (Qe Z (Jo Z (Jq (by first|rfl|omega|(simp only [row_len, gridC_len, rowO_len] <;>first|rfl|omega))) (Qe Z (Qe Z (Qe Z (Qe Z (Qe Z (Qe Z (Jc))))))))) (Qn _ _ _ _ _ Jk (Qu _) (Qn _ _ _ _ _ Qp (Qu _) (Qn _ _ _ _ _ Qp (Jh ⟨⟨⟨⟨Qq, Qb _⟩, Qb _⟩, Qb _⟩, Qb _⟩) (Qn _ _ _ _ _ Qp (Jh ⟨⟨⟨⟨Qq, Qb _⟩, Qb _⟩, Qb _⟩, Qb _⟩) (Jg _))))) ?_
 rintro m31 v h ⟨k30, l25, ⟨hkk30, hF27⟩, rfl, rfl⟩
 refine Qi (Qc (Qa (ps_lss Z Z Z) (Qm (Qd (Qi (Jf Z (fun (hk30 : (k30 : Int) < ((r21.length : Nat) : Int)) => ?_) (fun (hk30 : ¬ (k30 : Int) < ((r21.length : Nat) : Int)) => ?_)))))))
 obtain ⟨m31', rfl⟩ : ∃ x, m31 = x + 1 := ⟨m31 - 1, by omega⟩
 have hb := bind_l hF27; clear hF27
 obtain ⟨qrm31, H, hF27⟩ := hb
 have hnk30 : k30 < r21.length := by omega
 have hIk30 : InI ((k30 : Int) + 1) := inI_len hk30 ml24
 refine Ji (Qd (Qi (GoC.block (Qi (Qc (Qa (ps_indexAddr0N Z Z hnk30 Z) (Qa (Jr Z Js Js hnk30 Z Z) (Jm (ef_alloc Z) (fun β32 => ?_)))))))))
 refine GoO.eff1 (ef_storeAg Z Z Qy upd_whole Qf Z) (Qm (Qd (Qi (Qi (Qc (Qa (Qr Z Z) (Qa (Jd Z Qy Qy Qf Z Z) (Qa (Qj Z Z) ?_))))))))
 have hb := bind_l H; clear H
 obtain ⟨r33, e34, H⟩ := hb
 refine GoO.effC (ef_call Z (Ql _) (Ql _) (slices_Contains_int_spec ((r21.getD k30 El.d).arcs) k e34) (Qt (Qo _ _) (Qt (Qo _ _) (Jj))) Z (slices_Contains_int_I (r33))) (fun rr HH hp => ?_)
 obtain ⟨rfl, rfl⟩ := hp
 refine Qa (ps_not Z Z) (Qm (Qd (GoC.cond Z (fun h35 => ?_) (fun h35 => ?_))))
 replace H := itb_t h35 H
 refine GoC.exit Z (Qd (Qc (Qa (ps_add Z Z Z hIk30) (Qa (Qj Z Z) (Qm ?_)))))
 obtain rfl := Qg H
 exact GoK.againJ m31' (by omega) ⟨_, _, ⟨by omega, hF27⟩, Z, Z⟩ (Qe Z (Qe Z (Qe Z (Qe Z (Qe Z (Qe Z (Qe Z (Qe Z (Jc))))))))) (Qn _ _ _ _ _ Jk (Qu _) (Qn _ _ _ _ _ Jk (Qu _) (Qn _ _ _ _ _ Jk (Jh ⟨⟨⟨⟨Qq, Qb _⟩, Qb _⟩, Qb _⟩, Qb _⟩) (Qn _ _ _ _ _ Jk (Jh ⟨⟨⟨⟨Qq, Qb _⟩, Qb _⟩, Qb _⟩, Qb _⟩) (Jg _)))))
 replace H := itb_f h35 H
 refine Ji (Qd (Qi (GoC.drawA (.q 0 (.q 1 (.q 2 (.q 3 (.q 4 (.q 5 (.q 6 (.q 7 (.q 8 (.q 9 (.q 10 (.done)))))))))))) follows (by kernel_rfl) ?_)))
 refine Qx Z (Qr Z Z) (Qx Z (Jd Z Qy Qy Qf Z Z) ?_)
 iterate 2 refine Qx Z (Qj Z Z) ?_
 have c36 := ck_l H; replace H := ck_r H
 refine Qx Z (ps_indexAddr0 Z Z c36 Z) (Qx Z (Jd Z Js Js (idx_lt c36) Z Z) (Qx Z (Qj Z Z) ?_))
 have c37 := ck_l H; replace H := ck_r H
 refine Qx Z (ps_sub Z Z Z c37) (Qx Z (ps_min Z Z Z) (Qx Z (ps_max Z Z Z) (Qx Z (Qh Z Z) (GoP.done (Qd (Qi (Qc ?_)))))))
 refine Qa (Qr Z Z) (Qa (Jd Z Qy Qy Qf Z Z) (Qa (ps_len Z (by constructor) Z) ?_))
 refine GoO.lenLe (n := ((r21.getD k30 El.d).arcs).length) (x := .tmp 79) Z (by constructor) sl_lenLe (fun ml38 => ?_)
 refine Qa (Qj Z Z) (Qm (Qd ?_))
 have hb := bind_l H; clear H
 obtain ⟨l43, hl48, HK40⟩ := hb
 refine GoC.blockJ [(2, .v (.int .i64 k)), (3, .v (.int .i64 takes)), (4, .ptr β1 4 0 0), (8, .ptr β2 4 0 0), (57, .own β22 2 0 r21.length), (58, .v (.int .i64 ((r21.length : Nat) : Int))), (59, .v (.int .i64 ((k30 : Nat) : Int)))] [.one β32 115 2 (st1 (nth [.v (.int .i64 ((r21.getD k30 El.d).amount)), slD ((r21.getD k30 El.d).arcs)])), .one β22 115 2 (row r21), .one β2 35 4 (st1 (nth [.v (.int .i64 0), .v (.int .i64 0), .v (.int .i64 0), .v (.slice none 0 0)])), .one β1 35 4 (st1 (nth [.v (.int .i64 n.n), .v (.int .i64 n.s), .v (.int .i64 n.t), slD n.as]))] (fun v h => v = [(1, .own β18 1 0 l43.length)] ∧ h = [.one β18 3 1 (row l43)]) ?_ ?_
 refine GoC.loopJ [(2, _), (3, _), (4, _), (8, _), (18, _), (57, _), (58, _), (59, _), (79, _), (80, _)] [.one β32 115 2 (st1 (nth [.v (.int .i64 ((r21.getD k30 El.d).amount)), slD ((r21.getD k30 El.d).arcs)])), .one β22 115 2 (row r21), .one β2 35 4 (st1 (nth [.v (.int .i64 0), .v (.int .i64 0), .v (.int .i64 0), .v (.slice none 0 0)])), .one β1 35 4 (st1 (nth [.v (.int .i64 n.n), .v (.int .i64 n.s), .v (.int .i64 n.t), slD n.as]))] (fun mQ v h => ∃ (k44 : Nat) (l39 : (List Int)), (k44 + mQ = ((r21.getD k30 El.d).arcs).length ∧ forN (repair_Cap_B2 k takes r21 k30 l25) mQ k44 l39 = some l43) ∧ v = [(81, .v (.int .i64 ((k44 : Nat) : Int))), (1, .own β18 1 0 l39.length)] ∧ h = [.one β18 3 1 (row l39)]) (((r21.getD k30 El.d).arcs).length) ⟨_, _, ⟨by omega, hl48⟩, Z, Z⟩ (Qe Z (Jo Z (Jq (by first|rfl|omega|(simp only [row_len, gridC_len, rowO_len] <;>first|rfl|omega))) (Qe Z (Qe Z (Qe Z (Qe Z (Qe Z (Qe Z (Qe Z (Qe Z (Qe Z (Qe Z (Jc))))))))))))) (Qn _ _ _ _ _ Jk (Qu _) (Qn _ _ _ _ _ Qp (Jh ⟨⟨Qq, Qb _⟩, Qb _⟩) (Qn _ _ _ _ _ Qp (Qu _) (Qn _ _ _ _ _ Qp (Jh ⟨⟨⟨⟨Qq, Qb _⟩, Qb _⟩, Qb _⟩, Qb _⟩) (Qn _ _ _ _ _ Qp (Jh ⟨⟨⟨⟨Qq, Qb _⟩, Qb _⟩, Qb _⟩, Qb _⟩) (Jg _)))))) ?_
 rintro m45 v h ⟨k44, l39, ⟨hkk44, hF41⟩, rfl, rfl⟩
 refine Qi (Qc (Qa (ps_lss Z Z Z) (Qm (Qd (Qi (Jf Z (fun (hk44 : (k44 : Int) < ((((r21.getD k30 El.d).arcs).length : Nat) : Int)) => ?_) (fun (hk44 : ¬ (k44 : Int) < ((((r21.getD k30 El.d).arcs).length : Nat) : Int)) => ?_)))))))
 obtain ⟨m45', rfl⟩ : ∃ x, m45 = x + 1 := ⟨m45 - 1, by omega⟩
 have hb := bind_l hF41; clear hF41
 obtain ⟨qrm45, H, hF41⟩ := hb
 have hnk44 : k44 < ((r21.getD k30 El.d).arcs).length := by omega
 have hIk44 : InI ((k44 : Int) + 1) := inI_len hk44 ml38
 refine Ji (Qd (Qi (GoC.block (Qi (Qc (Qa (Jn Z Z hnk44 Z) (Qa (ps_loadR Z hnk44 Z Z) (Qa (Qh Z Z) (Qm (Qd (Qc ?_)))))))))))
 iterate 2 refine Qa (Qj Z Z) ?_
 have c46 := ck_l H; replace H := ck_r H
 refine Qa (ps_indexAddr0 Z Z c46 Z) (Qa (Jd Z Qy Qy (idx_lt c46) Z Z) (Qa (Qj Z Z) ?_))
 have c47 := ck_l H; replace H := ck_r H
 refine Qa (ps_sub Z Z Z c47) (Qa (ps_indexAddr0 Z Z c46 Z) (GoO.eff1 (ef_store Z Z Z Qy (upd_row1 (v := ((l39.getD ((((r21.getD k30 El.d).arcs).getD k44 (0 : Int)).toNat) (0 : Int)) - (max 0 (min ((r21.getD k30 El.d).amount) ((l25.getD k.toNat (0 : Int)) - takes))))) Z) (idx_lt c46) Z) ?_))
 refine Qm (GoK.blk (Qd (Qc (Qa (ps_add Z Z Z hIk44) (Qa (Qj Z Z) (Qm ?_))))))
 obtain rfl := Qg H
 exact GoK.againJ m45' (by omega) ⟨_, _, ⟨by omega, hF41⟩, Z, Z⟩ (Qe Z (Jo Z (Jq (by first|rfl|omega|(simp only [row_len, gridC_len, rowO_len, List.length_set] <;>first|rfl|omega))) (Qe Z (Qe Z (Qe Z (Qe Z (Qe Z (Qe Z (Qe Z (Qe Z (Qe Z (Qe Z (Jc))))))))))))) (Qn _ _ _ _ _ Qp (Qu _) (Qn _ _ _ _ _ Qp (Jh ⟨⟨Qq, Qb _⟩, Qb _⟩) (Qn _ _ _ _ _ Qp (Qu _) (Qn _ _ _ _ _ Qp (Jh ⟨⟨⟨⟨Qq, Qb _⟩, Qb _⟩, Qb _⟩, Qb _⟩) (Qn _ _ _ _ _ Qp (Jh ⟨⟨⟨⟨Qq, Qb _⟩, Qb _⟩, Qb _⟩, Qb _⟩) (Jg _))))))
 obtain rfl : m45 = 0 := by omega
 refine GoC.exit Z ?_
 cases hF41
 exact GoK.meet ⟨Z, Z⟩ (Jo Z (Jq (by first|rfl|omega|(simp only [row_len, gridC_len, rowO_len] <;>first|rfl|omega))) (Qe Z (Qe Z (Qe Z (Qe Z (Qe Z (Qe Z (Qe Z (Jc))))))))) (Qn _ _ _ _ _ Qp (Qu _) (Qn _ _ _ _ _ Qp (Jh ⟨⟨Qq, Qb _⟩, Qb _⟩) (Qn _ _ _ _ _ Qp (Qu _) (Qn _ _ _ _ _ Qp (Jh ⟨⟨⟨⟨Qq, Qb _⟩, Qb _⟩, Qb _⟩, Qb _⟩) (Qn _ _ _ _ _ Qp (Jh ⟨⟨⟨⟨Qq, Qb _⟩, Qb _⟩, Qb _⟩, Qb _⟩) (Jg _))))))
 rintro v h ⟨rfl, rfl⟩
 have H := HK40; clear HK40
 refine GoK.blk (Qd (Qc (Qa (ps_add Z Z Z hIk30) (Qa (Qj Z Z) (Qm ?_)))))
 obtain rfl := Qg H
 exact GoK.againJ m31' (by omega) ⟨_, _, ⟨by omega, hF27⟩, Z, Z⟩ (Qe Z (Jo Z (Jq (by first|rfl|omega|(simp only [row_len, gridC_len, rowO_len] <;>first|rfl|omega))) (Qe Z (Qe Z (Qe Z (Qe Z (Qe Z (Qe Z (Jc))))))))) (Qn _ _ _ _ _ Qp (Qu _) (Qn _ _ _ _ _ Jk (Qu _) (Qn _ _ _ _ _ Jk (Jh ⟨⟨⟨⟨Qq, Qb _⟩, Qb _⟩, Qb _⟩, Qb _⟩) (Qn _ _ _ _ _ Jk (Jh ⟨⟨⟨⟨Qq, Qb _⟩, Qb _⟩, Qb _⟩, Qb _⟩) (Jg _)))))
 obtain rfl : m31 = 0 := by omega
 refine GoC.exit Z ?_
 cases hF27
 exact GoK.meet ⟨Z, Z⟩ (Jo Z (Jq (by first|rfl|omega|(simp only [row_len, gridC_len, rowO_len] <;>first|rfl|omega))) (Qe Z (Qe Z (Qe Z (Qe Z (Jc)))))) (Qn _ _ _ _ _ Qp (Qu _) (Qn _ _ _ _ _ Qp (Qu _) (Qn _ _ _ _ _ Qp (Jh ⟨⟨⟨⟨Qq, Qb _⟩, Qb _⟩, Qb _⟩, Qb _⟩) (Qn _ _ _ _ _ Qp (Jh ⟨⟨⟨⟨Qq, Qb _⟩, Qb _⟩, Qb _⟩, Qb _⟩) (Jg _)))))
 rintro v h ⟨rfl, rfl⟩
 have H := HK26; clear HK26
 refine Qd (Qi (Qc (Qa (Qr Z Z) (Qa (Jd Z At.p3 At.p3 Qf Z Z) ?_))))
 have hb := bind_l H; clear H
 obtain ⟨r50, e52, H⟩ := hb
 refine GoO.effC (ef_call Z (Ql _) (Ql _) (slices_Clone_Arc_spec n.as e52) (Qt (Qo _ _) (Jj)) Z (slices_Clone_Arc_I (r50))) (fun rr HH hp => ?_)
 obtain ⟨β51, rfl, rfl⟩ := hp
 refine Qa (Qr Z Z) (GoO.eff1 (ef_store Z Z Z At.p4 upd_st1 Qf Z) (Qm (Qd (Qi (Qc (Qa (Qr Z Z) (Qa (Jd Z At.p4 At.p4 Qf Z Z) ?_)))))))
 iterate 2 refine Qa (Qj Z Z) ?_
 have c53 := ck_l H; replace H := ck_r H
 refine Qa (ps_indexAddr0 Z Z c53 Z) (Qa (Qr Z Z) (GoO.eff1 (ef_store Z Z Z Qy (upd_rowF (v := (⟨(r50.getD k.toNat El.d).f, (r50.getD k.toNat El.d).t, takes⟩ : Arc)) ⟨⟨⟨Qq, Z⟩, Z⟩, Z⟩) (idx_lt c53) Z) ?_))
 refine Qm (Qd (Qi (Qc (Qa (Jr Z At.p4 At.p4 Qf Z Z) (Qa (Qj Z Z) ?_)))))
 have hb := bind_l H; clear H
 obtain ⟨⟨r54, r56, r58, r59⟩, e60, H⟩ := hb
 refine GoO.effC (ef_call Z (Ql _) (Qk _ _ _ _ _ Qp (Qk _ _ _ _ _ Qp (Ql _))) (repair_on_spec (⟨n.n, n.s, n.t, (r50.set k.toNat (⟨(r50.getD k.toNat El.d).f, (r50.getD k.toNat El.d).t, takes⟩ : Arc))⟩ : Net) l29 e60) (Qt (Lend.agA ⟨⟨⟨⟨Qq, Qo _ _⟩, Qo _ _⟩, Qo _ _⟩, Lend.all' Qy (by first|rfl|omega|(simp only[szl]<;>first|rfl|omega)) Z⟩) (Qt (Lend.all' Js (by first|rfl|omega|(simp only[szl]<;>first|rfl|omega)) Z) (Jj))) Z (repair_on_I (r54, r56, r58, r59))) (fun rr HH hp => ?_)
 obtain ⟨β55, β57, rfl, rfl⟩ := hp
 iterate 4 refine Qa (Jb Z Z Z) ?_
 refine GoO.eff1 (ef_storeAg Z Z At.p5 upd_whole Qf Z) ?_
 iterate 3 refine Qa (Qh Z Z) ?_
 refine Qm (Qd ?_)
 obtain rfl := Qg H
 exact Ja (ds := [.ag 4 (nth [.v (.int .i64 r54.n), .v (.int .i64 r54.s), .v (.int .i64 r54.t), .own β55 3 0 r54.as.length]), .own β57 1 0 r56.length, .v (.int .i64 r58), .v (.int .i64 r59)]) Try.results43 (Qs (ResD.le (ResD.cellAg Z At.p5 Qf Z) (by exact DLe.ag ⟨⟨⟨⟨Qq, Qb _⟩, Qb _⟩, Qb _⟩, Qb _⟩)) (Qs (Qw Z) (Qs (Qw Z) (Qs (Qw Z) (Qz))))) (Qk _ _ _ _ _ Qp (Qk _ _ _ _ _ Qp (Ql _))) ⟨β55, β57, Z, Z⟩
 replace H := ite_t h9 H
 refine Qv Z Z Z Z (Qa (ps_pickT Z Z Z) (Qm (Qd (GoC.condT Z (Qi (Qc (Qa (ps_build (Parts.nil _) Z) ?_)))))))
 refine GoO.eff1 (ef_storeAg Z Z Qy upd_whole Qf Z) ?_
 iterate 3 refine Qa (Qh Z Z) ?_
 refine Qm (Qd ?_)
 obtain rfl := Qg H
 refine GoC.le (le_row0 57 3 (row ([] : List Arc)) Z) ?_
 refine GoC.le (le_row0 3 1 (row ([] : List Int)) Z) ?_
 exact Ja (ds := [.ag 4 (nth [.v (.int .i64 0), .v (.int .i64 0), .v (.int .i64 0), .own ⟨0, 0, 0⟩ 3 0 0]), .own ⟨0, 0, 0⟩ 1 0 0, .v (.int .i64 0), .v (.int .i64 1)]) Try.results43 (Qs (ResD.le (ResD.cellAg Z At.p2 Qf Z) (by exact DLe.ag ⟨⟨⟨⟨Qq, Qb _⟩, Qb _⟩, Qb _⟩, DLe.nilOwn⟩)) (Qs (ResD.le (Qw Z) (by exact DLe.nilOwn)) (Qs (Qw Z) (Qs (Qw Z) (Qz))))) (Qk _ _ _ _ _ Jk (Qk _ _ _ _ _ Qp (Ql _))) ⟨⟨0, 0, 0⟩, ⟨0, 0, 0⟩, Z, Z⟩
 replace H := ite_t h6 H
 iterate 4 refine Qv Z Z Z Z ?_
 refine Qa (ps_pickT Z Z Z) (Qm (Qd (GoC.condT Z (Qi (Qc (Qa (ps_build (Parts.nil _) Z) (GoO.eff1 (ef_storeAg Z Z Qy upd_whole Qf Z) ?_)))))))
 iterate 3 refine Qa (Qh Z Z) ?_
 refine Qm (Qd ?_)
 obtain rfl := Qg H
 refine GoC.le (le_row0 57 3 (row ([] : List Arc)) Z) ?_
 refine GoC.le (le_row0 3 1 (row ([] : List Int)) Z) ?_
 exact Ja (ds := [.ag 4 (nth [.v (.int .i64 0), .v (.int .i64 0), .v (.int .i64 0), .own ⟨0, 0, 0⟩ 3 0 0]), .own ⟨0, 0, 0⟩ 1 0 0, .v (.int .i64 0), .v (.int .i64 5)]) Try.results43 (Qs (ResD.le (ResD.cellAg Z At.p2 Qf Z) (by exact DLe.ag ⟨⟨⟨⟨Qq, Qb _⟩, Qb _⟩, Qb _⟩, DLe.nilOwn⟩)) (Qs (ResD.le (Qw Z) (by exact DLe.nilOwn)) (Qs (Qw Z) (Qs (Qw Z) (Qz))))) (Qk _ _ _ _ _ Jk (Qk _ _ _ _ _ Qp (Ql _))) ⟨⟨0, 0, 0⟩, ⟨0, 0, 0⟩, Z, Z⟩
theorem repair_Cap_specF (n : Net) (f : (List Int)) (k : Int) (takes : Int) {out : Net × (List Int) × Int × Int} (H : repair_Cap_F n f k takes = some out) : Does Try.prog 43 [.ag 4 (nth [.v (.int .i64 n.n), .v (.int .i64 n.s), .v (.int .i64 n.t), slD n.as]), slD f, .v (.int .i64 k), .v (.int .i64 takes)] [] (repair_Cap_PF out) :=
 Does.freeze (repair_Cap_spec n f k takes H) fun d H hp => by
  obtain ⟨β1, β2, rfl, rfl⟩ := hp
  exact ⟨_, ⟨Z, Z⟩, Lend.tpL (Qt (Lend.agA ⟨⟨⟨⟨Qq, Qo _ _⟩, Qo _ _⟩, Qo _ _⟩, Lend.all' Qy Z Z⟩) (Qt (Lend.all' Js Z Z) (Qt (Qo _ _) (Qt (Qo _ _) (Jj)))))⟩
theorem repair_Drop_spec (n : Net) (f : (List Int)) (k : Int) {out : Net × (List Int) × Int × Int} (H : repair_Drop_F n f k = some out) : Does Try.prog 44 [.ag 4 (nth [.v (.int .i64 n.n), .v (.int .i64 n.s), .v (.int .i64 n.t), slD n.as]), slD f, .v (.int .i64 k)] [] (repair_Drop_P out) := by
 unfold repair_Drop_F at H
 refine Does.intro Try.func44 Z Try.ntmps44 Z fun w0 I0 tb0 => ?_
 refine Qi (Qc (Jm (ef_boxAg Z Z) (fun β1 => ?_)))
 refine Jm (ef_alloc Z) (fun β2 => ?_)
 iterate 3 refine Qa (Qh Z Z) ?_
 refine Qm (Qd (Qi (Qc (Qa (Jr Z Js Js Qf Z Z) ?_))))
 iterate 2 refine Qa (Qj Z Z) ?_
 have hb := bind_l H; clear H
 obtain ⟨⟨r3, r5, r7, r8⟩, e9, H⟩ := hb
 refine GoO.effC (ef_call Z (Ql _) (Ql _) (repair_Cap_spec n f k 0 e9) (Qt (Lend.agA ⟨⟨⟨⟨Qq, Qo _ _⟩, Qo _ _⟩, Qo _ _⟩, Qo _ _⟩) (Qt (Qo _ _) (Qt (Qo _ _) (Qt (Qo _ _) (Jj))))) Z (repair_Cap_I (r3, r5, r7, r8))) (fun rr HH hp => ?_)
 obtain ⟨β4, β6, rfl, rfl⟩ := hp
 refine Qa (Qj Z Z) ?_
 iterate 4 refine Qa (Jb Z Z Z) ?_
 refine Jm (ef_alloc Z) (fun β10 => ?_)
 refine GoO.eff1 (ef_storeAg Z Z Qy upd_whole Qf Z) ?_
 iterate 3 refine Qa (Qh Z Z) ?_
 refine Qm (Qd (Qi (Qi (Qc (Qa (Qj Z Z) (Qa (ps_neq Z Z Z) (Qm (Qd (Jf Z (fun h11 => ?_) (fun h11 => ?_))))))))))
 replace H := ite_t h11 H
 refine Qi (Qc (Qa (ps_build (Parts.nil _) Z) (Qa (Qj Z Z) (GoO.eff1 (ef_storeAg Z Z At.p3 upd_whole Qf Z) ?_))))
 iterate 3 refine Qa (Qh Z Z) ?_
 refine Qm (Qd ?_)
 obtain rfl := Qg H
 refine GoC.le (le_row0 57 3 (row ([] : List Arc)) Z) ?_
 refine GoC.le (le_row0 3 1 (row ([] : List Int)) Z) ?_
 exact Ja (ds := [.ag 4 (nth [.v (.int .i64 0), .v (.int .i64 0), .v (.int .i64 0), .own ⟨0, 0, 0⟩ 3 0 0]), .own ⟨0, 0, 0⟩ 1 0 0, .v (.int .i64 0), .v (.int .i64 r8)]) Try.results44 (Qs (ResD.le (ResD.cellAg Z At.p5 Qf Z) (by exact DLe.ag ⟨⟨⟨⟨Qq, Qb _⟩, Qb _⟩, Qb _⟩, DLe.nilOwn⟩)) (Qs (ResD.le (Qw Z) (by exact DLe.nilOwn)) (Qs (Qw Z) (Qs (Qw Z) (Qz))))) (Qk _ _ _ _ _ Jk (Qk _ _ _ _ _ Qp (Ql _))) ⟨⟨0, 0, 0⟩, ⟨0, 0, 0⟩, Z, Z⟩
 replace H := ite_f h11 H
 refine Ji (Qd (Qi (Qc (Qa (Qr Z Z) (Qa (Jd Z Qy Qy Qf Z Z) ?_)))))
 iterate 2 refine Qa (Qj Z Z) ?_
 have c12 := ck_l H; replace H := ck_r H
 refine Qa (ps_add Z Z Z c12) ?_
 have hb := bind_l H; clear H
 obtain ⟨r13, e15, H⟩ := hb
 refine GoO.effC (ef_call Z (Qk _ _ _ _ _ Jk (Ql _)) (Ql _) (slices_Delete_Arc_spec r3.as k (k + 1) β4 e15) (Qt (Qo _ _) (Qt (Qo _ _) (Qt (Qo _ _) (Jj)))) Z (slices_Delete_Arc_I (r13) β4)) (fun rr HH hp => ?_)
 obtain ⟨β14, rfl, rfl⟩ := hp
 refine Qa (Qr Z Z) (GoO.eff1 (ef_store Z Z Z Js upd_st1 Qf Z) (Qm (Qd (Qi (GoC.drawP (.q 0 (.q 1 (.q 2 (.q 3 (.q 4 (.one 5 (.one 6 (.q 7 (.q 8 (.q 9 (.q 10 (.one 11 (.q 12 (.q 13 (.q 14 (.done)))))))))))))))) [(10, _, _, _)] follows (by kernel_rfl) (Qk _ _ _ _ _ Jk (Ql _)) ?_)))))
 refine Qx Z (Jr Z Js Qy Qf Z Z) ?_
 iterate 3 refine Qx Z (Qj Z Z) ?_
 refine Qx Z (ps_add Z Z Z c12) ?_
 have hb := bind_l H; clear H
 obtain ⟨r16, e18, H⟩ := hb
 refine GoP.oneC Z Qq (ef_call Z (Qk _ _ _ _ _ Rem.p2 (Ql _)) (Ql _) (slices_Delete_int_spec r5 k (k + 1) β6 e18) (Qt (Qo _ _) (Qt (Qo _ _) (Qt (Qo _ _) (Jj)))) Z (slices_Delete_int_I (r16) β6)) (Qk _ _ _ _ _ Rem.p2 (Qk _ _ _ _ _ Jk (Ql _))) (fun rr HH hp => ?_)
 obtain ⟨β17, rfl, rfl⟩ := hp
 have hb := bind_l H; clear H
 obtain ⟨⟨r19, r21, r23, r24⟩, e25, H⟩ := hb
 refine GoP.oneC Z Qq (ef_call Z (Ql _) (Qk _ _ _ _ _ Jk (Qk _ _ _ _ _ Qp (Ql _))) (repair_on_spec (⟨r3.n, r3.s, r3.t, r13⟩ : Net) r16 e25) (Qt (Lend.agA ⟨⟨⟨⟨Qq, Qo _ _⟩, Qo _ _⟩, Qo _ _⟩, Lend.all' Qy (by first|rfl|omega|(simp only[szl]<;>first|rfl|omega)) Z⟩) (Qt (Lend.all' Js (by first|rfl|omega|(simp only[szl]<;>first|rfl|omega)) Z) (Jj))) Z (repair_on_I (r19, r21, r23, r24))) (Qk _ _ _ _ _ Rem.p2 (Ql _)) (fun rr HH hp => ?_)
 obtain ⟨β20, β22, rfl, rfl⟩ := hp
 iterate 4 refine Qx Z (Jb Z Z Z) ?_
 refine GoP.one1 Z Qq (ef_storeAg Z Z At.p5 upd_whole Qf Z) (Qk _ _ _ _ _ Rem.p5 (Qk _ _ _ _ _ Rem.p4 (Ql _))) ?_
 iterate 3 refine Qx Z (Qh Z Z) ?_
 refine GoP.done (Qd ?_)
 obtain rfl := Qg H
 exact Ja (ds := [.ag 4 (nth [.v (.int .i64 r19.n), .v (.int .i64 r19.s), .v (.int .i64 r19.t), .own β20 3 0 r19.as.length]), .own β22 1 0 r21.length, .v (.int .i64 r23), .v (.int .i64 r24)]) Try.results44 (Qs (ResD.le (ResD.cellAg Z At.p5 Qf Z) (by exact DLe.ag ⟨⟨⟨⟨Qq, Qb _⟩, Qb _⟩, Qb _⟩, Qb _⟩)) (Qs (Qw Z) (Qs (Qw Z) (Qs (Qw Z) (Qz))))) (Qk _ _ _ _ _ Qp (Qk _ _ _ _ _ Qp (Ql _))) ⟨β20, β22, Z, Z⟩
theorem repair_Drop_specF (n : Net) (f : (List Int)) (k : Int) {out : Net × (List Int) × Int × Int} (H : repair_Drop_F n f k = some out) : Does Try.prog 44 [.ag 4 (nth [.v (.int .i64 n.n), .v (.int .i64 n.s), .v (.int .i64 n.t), slD n.as]), slD f, .v (.int .i64 k)] [] (repair_Drop_PF out) :=
 Does.freeze (repair_Drop_spec n f k H) fun d H hp => by
  obtain ⟨β1, β2, rfl, rfl⟩ := hp
  exact ⟨_, ⟨Z, Z⟩, Lend.tpL (Qt (Lend.agA ⟨⟨⟨⟨Qq, Qo _ _⟩, Qo _ _⟩, Qo _ _⟩, Lend.all' Qy Z Z⟩) (Qt (Lend.all' Js Z Z) (Qt (Qo _ _) (Qt (Qo _ _) (Jj)))))⟩
theorem repair_Ends_spec (n : Net) (f : (List Int)) (s : Int) (t : Int) {out : Net × (List Int) × Int × Int} (H : repair_Ends_F n f s t = some out) : Does Try.prog 45 [.ag 4 (nth [.v (.int .i64 n.n), .v (.int .i64 n.s), .v (.int .i64 n.t), slD n.as]), slD f, .v (.int .i64 s), .v (.int .i64 t)] [] (repair_Ends_P out) := by
 unfold repair_Ends_F at H
 refine Does.intro Try.func45 Z Try.ntmps45 Z fun w0 I0 tb0 => ?_
 refine Qi (Qc (Jm (ef_boxAg Z Z) (fun β1 => ?_)))
 refine Jm (ef_alloc Z) (fun β2 => ?_)
 iterate 3 refine Qa (Qh Z Z) ?_
 refine Qm (Qd (Qi (Qi (Qc (Qa (Jr Z Js Js Qf Z Z) (Qa (Qj Z Z) ?_))))))
 have hb := bind_l H; clear H
 obtain ⟨r3, e4, H⟩ := hb
 refine GoO.effC (ef_call Z (Ql _) (Ql _) (repair_Check_spec n f e4) (Qt (Lend.agA ⟨⟨⟨⟨Qq, Qo _ _⟩, Qo _ _⟩, Qo _ _⟩, Qo _ _⟩) (Qt (Qo _ _) (Jj))) Z (repair_Check_I (r3))) (fun rr HH hp => ?_)
 obtain ⟨rfl, rfl⟩ := hp
 refine Qa (Qh Z Z) (Qm (Qd (Qi (Qc (Qa (Qj Z Z) (Qa (ps_neq Z Z Z) (Qm (Qd (Jf Z (fun h5 => ?_) (fun h5 => ?_))))))))))
 replace H := ite_t h5 H
 refine Qi (Qc (Qa (ps_build (Parts.nil _) Z) (Qa (Qj Z Z) (GoO.eff1 (ef_storeAg Z Z Qy upd_whole Qf Z) ?_))))
 iterate 3 refine Qa (Qh Z Z) ?_
 refine Qm (Qd ?_)
 obtain rfl := Qg H
 refine GoC.le (le_row0 57 3 (row ([] : List Arc)) Z) ?_
 refine GoC.le (le_row0 3 1 (row ([] : List Int)) Z) ?_
 exact Ja (ds := [.ag 4 (nth [.v (.int .i64 0), .v (.int .i64 0), .v (.int .i64 0), .own ⟨0, 0, 0⟩ 3 0 0]), .own ⟨0, 0, 0⟩ 1 0 0, .v (.int .i64 0), .v (.int .i64 r3)]) Try.results45 (Qs (ResD.le (ResD.cellAg Z At.p2 Qf Z) (by exact DLe.ag ⟨⟨⟨⟨Qq, Qb _⟩, Qb _⟩, Qb _⟩, DLe.nilOwn⟩)) (Qs (ResD.le (Qw Z) (by exact DLe.nilOwn)) (Qs (Qw Z) (Qs (Qw Z) (Qz))))) (Qk _ _ _ _ _ Jk (Qk _ _ _ _ _ Qp (Ql _))) ⟨⟨0, 0, 0⟩, ⟨0, 0, 0⟩, Z, Z⟩
 replace H := ite_f h5 H
 refine Ji (Qd (Qi (Qc (Qa (Qr Z Z) (Qa (Jd Z Js Js Qf Z Z) ?_)))))
 iterate 2 refine Qa (Qj Z Z) ?_
 refine Qa (Qr Z Z) (Qa (Jd Z Js Js Qf Z Z) (Qa (ps_build (Jl _ _ _ _ _ _ _ _ FdP.of (Part.one _ Z Z) Z Z (Jl _ _ _ _ _ _ _ _ FdP.of (Part.one _ Z Z) Z Z (Jl _ _ _ _ _ _ _ _ FdP.of (Part.one _ Z Z) Z Z (Jl _ _ _ _ _ _ _ _ FdP.of (Part.one _ Z Z) Z Z (Parts.nil _))))) Z) (Jm (ef_alloc Z) (fun β6 => ?_))))
 refine GoO.eff1 (ef_storeAg Z Z Qy upd_whole Qf Z) (Qm (Qd (Qi (Qi (Qc (Qa (Jr Z Qy Qy Qf Z Z) ?_))))))
 have hb := bind_l H; clear H
 obtain ⟨r7, e8, H⟩ := hb
 refine GoO.effC (ef_call Z (Ql _) (Ql _) (graph_CheckNet_spec (⟨n.n, s, t, n.as⟩ : Net) e8) (Qt (Lend.agA ⟨⟨⟨⟨Qq, Qo _ _⟩, Qo _ _⟩, Qo _ _⟩, Qo _ _⟩) (Jj)) Z (graph_CheckNet_I (r7))) (fun rr HH hp => ?_)
 obtain ⟨rfl, rfl⟩ := hp
 refine Qa (Qh Z Z) (Qm (Qd (Qi (Qc (Qa (Qj Z Z) (Qa (ps_neq Z Z Z) (Qm (Qd (Jf Z (fun h9 => ?_) (fun h9 => ?_))))))))))
 replace H := ite_t h9 H
 refine Qi (Qc (Qa (ps_build (Parts.nil _) Z) (Qa (Qj Z Z) (GoO.eff1 (ef_storeAg Z Z Js upd_whole Qf Z) ?_))))
 iterate 3 refine Qa (Qh Z Z) ?_
 refine Qm (Qd ?_)
 obtain rfl := Qg H
 refine GoC.le (le_row0 57 3 (row ([] : List Arc)) Z) ?_
 refine GoC.le (le_row0 3 1 (row ([] : List Int)) Z) ?_
 exact Ja (ds := [.ag 4 (nth [.v (.int .i64 0), .v (.int .i64 0), .v (.int .i64 0), .own ⟨0, 0, 0⟩ 3 0 0]), .own ⟨0, 0, 0⟩ 1 0 0, .v (.int .i64 0), .v (.int .i64 r7)]) Try.results45 (Qs (ResD.le (ResD.cellAg Z At.p3 Qf Z) (by exact DLe.ag ⟨⟨⟨⟨Qq, Qb _⟩, Qb _⟩, Qb _⟩, DLe.nilOwn⟩)) (Qs (ResD.le (Qw Z) (by exact DLe.nilOwn)) (Qs (Qw Z) (Qs (Qw Z) (Qz))))) (Qk _ _ _ _ _ Jk (Qk _ _ _ _ _ Qp (Ql _))) ⟨⟨0, 0, 0⟩, ⟨0, 0, 0⟩, Z, Z⟩
 replace H := ite_f h9 H
 refine Ji (Qd (Qi (Qc (Qa (Jr Z At.p2 At.p2 Qf Z Z) (Qa (Qj Z Z) ?_)))))
 have hb := bind_l H; clear H
 obtain ⟨⟨r10, r12, r14⟩, e15, H⟩ := hb
 refine GoO.callF Z (Ql _) (Ql _) (flow_Split_spec n f e15) (Qt (Lend.agA ⟨⟨⟨⟨Qq, Qo _ _⟩, Qo _ _⟩, Qo _ _⟩, Qo _ _⟩) (Qt (Qo _ _) (Jj))) Z nil_fps (fun rr HH hp => ?_)
 obtain ⟨β11, β13, rfl, rfl⟩ := hp
 refine Qa (Qj Z Z) ?_
 iterate 3 refine Qa (Jb Z Z Z) ?_
 iterate 3 refine Qa (Qh Z Z) ?_
 refine Qm (Qd (Qi (Qc (Qa (Qj Z Z) (Qa (ps_len Z (by constructor) Z) ?_)))))
 refine GoO.lenLe (n := f.length) (x := .tmp 49) Z (by constructor) sl_lenLe (fun ml16 => ?_)
 have c18 := ck_l H; replace H := ck_r H
 refine Jm (ef_makeZ Z Z c18 Z Z Z) (fun β17 => ?_)
 refine GoO.le (Le.reH Qy (HLe.zeros (α := Int) ⟨Qq, Qb _⟩)) ?_
 refine Qa (Qh Z Z) (Qm (Qd (Qi (Qi (Qc (Qa (Qj Z Z) (Qa (ps_len Z (by constructor) Z) ?_)))))))
 refine GoO.lenLe (n := r12.length) (x := .tmp 52) Z (by constructor) own_lenLe (fun ml19 => ?_)
 refine Qa (Qj Z Z) (Qm (Qd ?_))
 have hb := bind_l H; clear H
 obtain ⟨l24, hl39, HK21⟩ := hb
 refine GoC.blockJ [(8, .ptr β2 4 0 0), (13, .ptr β6 4 0 0)] [.one β11 115 2 (row r10), .one β13 115 2 (row r12), .one β6 35 4 (st1 (nth [.v (.int .i64 n.n), .v (.int .i64 s), .v (.int .i64 t), slD n.as])), .one β2 35 4 (st1 (nth [.v (.int .i64 0), .v (.int .i64 0), .v (.int .i64 0), .v (.slice none 0 0)])), .one β1 35 4 (st1 (nth [.v (.int .i64 n.n), .v (.int .i64 n.s), .v (.int .i64 n.t), slD n.as]))] (fun v h => v = [(1, .own β17 1 0 l24.length)] ∧ h = [.one β17 3 1 (row l24)]) ?_ ?_
 refine GoC.loopJ [(8, _), (13, _), (52, _), (53, _)] [.one β11 115 2 (row r10), .one β13 115 2 (row r12), .one β6 35 4 (st1 (nth [.v (.int .i64 n.n), .v (.int .i64 s), .v (.int .i64 t), slD n.as])), .one β2 35 4 (st1 (nth [.v (.int .i64 0), .v (.int .i64 0), .v (.int .i64 0), .v (.slice none 0 0)])), .one β1 35 4 (st1 (nth [.v (.int .i64 n.n), .v (.int .i64 n.s), .v (.int .i64 n.t), slD n.as]))] (fun mQ v h => ∃ (k25 : Nat) (l20 : (List Int)), (k25 + mQ = r12.length ∧ forN (repair_Ends_B1 r12) mQ k25 l20 = some l24) ∧ v = [(54, .v (.int .i64 ((k25 : Nat) : Int))), (1, .own β17 1 0 l20.length)] ∧ h = [.one β17 3 1 (row l20)]) r12.length ⟨_, _, ⟨by omega, hl39⟩, Z, Z⟩ (Qe Z (Jo Z (Jq (by first|rfl|omega|(simp only [row_len, gridC_len, rowO_len, List.length_replicate] <;>first|rfl|omega))) (Qe Z (Qe Z (Qe Z (Qe Z (Jc))))))) (Qn _ _ _ _ _ Qp (Qu _) (Qn _ _ _ _ _ Qp (Qu _) (Qn _ _ _ _ _ Qp (Qu _) (Qn _ _ _ _ _ Qp (Jh ⟨⟨⟨⟨Qq, Qb _⟩, Qb _⟩, Qb _⟩, Qb _⟩) (Qn _ _ _ _ _ Qp (Jh ⟨⟨⟨⟨Qq, Qb _⟩, Qb _⟩, Qb _⟩, Qb _⟩) (Qn _ _ _ _ _ Qp (Jh ⟨⟨⟨⟨Qq, Qb _⟩, Qb _⟩, Qb _⟩, Qb _⟩) (Jg _))))))) ?_
 rintro m26 v h ⟨k25, l20, ⟨hkk25, hF22⟩, rfl, rfl⟩
 refine Qi (Qc (Qa (ps_lss Z Z Z) (Qm (Qd (Qi (Jf Z (fun (hk25 : (k25 : Int) < ((r12.length : Nat) : Int)) => ?_) (fun (hk25 : ¬ (k25 : Int) < ((r12.length : Nat) : Int)) => ?_)))))))
 obtain ⟨m26', rfl⟩ : ∃ x, m26 = x + 1 := ⟨m26 - 1, by omega⟩
 have hb := bind_l hF22; clear hF22
 obtain ⟨qrm26, H, hF22⟩ := hb
 have hnk25 : k25 < r12.length := by omega
 have hIk25 : InI ((k25 : Int) + 1) := inI_len hk25 ml19
 refine Ji (Qd (Qi (GoC.block (Qi (Qc (Qa (ps_indexAddr0N Z Z hnk25 Z) (Qa (Jr Z At.p2 At.p2 hnk25 Z Z) (Jm (ef_alloc Z) (fun β27 => ?_)))))))))
 refine GoO.eff1 (ef_storeAg Z Z Qy upd_whole Qf Z) (Qm (Qd (Qi (Qc (Qa (Qr Z Z) (Qa (Jd Z Qy Qy Qf Z Z) (Qa (ps_len Z (by constructor) Z) ?_)))))))
 refine GoO.lenLe (n := ((r12.getD k25 El.d).arcs).length) (x := .tmp 59) Z (by constructor) sl_lenLe (fun ml28 => ?_)
 refine Qa (Qj Z Z) (Qm (Qd ?_))
 have hb := bind_l H; clear H
 obtain ⟨l33, hl38, HK30⟩ := hb
 refine GoC.blockJ [(8, .ptr β2 4 0 0), (13, .ptr β6 4 0 0), (52, .own β13 2 0 r12.length), (53, .v (.int .i64 ((r12.length : Nat) : Int))), (54, .v (.int .i64 ((k25 : Nat) : Int)))] [.one β27 115 2 (st1 (nth [.v (.int .i64 ((r12.getD k25 El.d).amount)), slD ((r12.getD k25 El.d).arcs)])), .one β11 115 2 (row r10), .one β13 115 2 (row r12), .one β6 35 4 (st1 (nth [.v (.int .i64 n.n), .v (.int .i64 s), .v (.int .i64 t), slD n.as])), .one β2 35 4 (st1 (nth [.v (.int .i64 0), .v (.int .i64 0), .v (.int .i64 0), .v (.slice none 0 0)])), .one β1 35 4 (st1 (nth [.v (.int .i64 n.n), .v (.int .i64 n.s), .v (.int .i64 n.t), slD n.as]))] (fun v h => v = [(1, .own β17 1 0 l33.length)] ∧ h = [.one β17 3 1 (row l33)]) ?_ ?_
 refine GoC.loopJ [(8, _), (13, _), (19, _), (52, _), (53, _), (54, _), (59, _), (60, _)] [.one β27 115 2 (st1 (nth [.v (.int .i64 ((r12.getD k25 El.d).amount)), slD ((r12.getD k25 El.d).arcs)])), .one β11 115 2 (row r10), .one β13 115 2 (row r12), .one β6 35 4 (st1 (nth [.v (.int .i64 n.n), .v (.int .i64 s), .v (.int .i64 t), slD n.as])), .one β2 35 4 (st1 (nth [.v (.int .i64 0), .v (.int .i64 0), .v (.int .i64 0), .v (.slice none 0 0)])), .one β1 35 4 (st1 (nth [.v (.int .i64 n.n), .v (.int .i64 n.s), .v (.int .i64 n.t), slD n.as]))] (fun mQ v h => ∃ (k34 : Nat) (l29 : (List Int)), (k34 + mQ = ((r12.getD k25 El.d).arcs).length ∧ forN (repair_Ends_B2 r12 k25) mQ k34 l29 = some l33) ∧ v = [(61, .v (.int .i64 ((k34 : Nat) : Int))), (1, .own β17 1 0 l29.length)] ∧ h = [.one β17 3 1 (row l29)]) (((r12.getD k25 El.d).arcs).length) ⟨_, _, ⟨by omega, hl38⟩, Z, Z⟩ (Qe Z (Jo Z (Jq (by first|rfl|omega|(simp only [row_len, gridC_len, rowO_len] <;>first|rfl|omega))) (Qe Z (Qe Z (Qe Z (Qe Z (Qe Z (Qe Z (Qe Z (Qe Z (Jc))))))))))) (Qn _ _ _ _ _ Jk (Qu _) (Qn _ _ _ _ _ Qp (Jh ⟨⟨Qq, Qb _⟩, Qb _⟩) (Qn _ _ _ _ _ Qp (Qu _) (Qn _ _ _ _ _ Qp (Qu _) (Qn _ _ _ _ _ Qp (Jh ⟨⟨⟨⟨Qq, Qb _⟩, Qb _⟩, Qb _⟩, Qb _⟩) (Qn _ _ _ _ _ Qp (Jh ⟨⟨⟨⟨Qq, Qb _⟩, Qb _⟩, Qb _⟩, Qb _⟩) (Qn _ _ _ _ _ Qp (Jh ⟨⟨⟨⟨Qq, Qb _⟩, Qb _⟩, Qb _⟩, Qb _⟩) (Jg _)))))))) ?_
 rintro m35 v h ⟨k34, l29, ⟨hkk34, hF31⟩, rfl, rfl⟩
 refine Qi (Qc (Qa (ps_lss Z Z Z) (Qm (Qd (Qi (Jf Z (fun (hk34 : (k34 : Int) < ((((r12.getD k25 El.d).arcs).length : Nat) : Int)) => ?_) (fun (hk34 : ¬ (k34 : Int) < ((((r12.getD k25 El.d).arcs).length : Nat) : Int)) => ?_)))))))
 obtain ⟨m35', rfl⟩ : ∃ x, m35 = x + 1 := ⟨m35 - 1, by omega⟩
 have hb := bind_l hF31; clear hF31
 obtain ⟨qrm35, H, hF31⟩ := hb
 have hnk34 : k34 < ((r12.getD k25 El.d).arcs).length := by omega
 have hIk34 : InI ((k34 : Int) + 1) := inI_len hk34 ml28
 refine Ji (Qd (Qi (GoC.block (Qi (Qc (Qa (Jn Z Z hnk34 Z) (Qa (ps_loadR Z hnk34 Z Z) (Qa (Qh Z Z) (Qm (Qd (GoC.drawP (.q 0 (.q 1 (.q 2 (.q 4 (.q 5 (.one 3 (.q 6 (.q 7 (.one 8 (.done)))))))))) [(19, _, _, _)] follows (by kernel_rfl) (Qk _ _ _ _ _ Jk (Ql _)) ?_)))))))))))
 iterate 2 refine Qx Z (Qj Z Z) ?_
 have c36 := ck_l H; replace H := ck_r H
 refine Qx Z (ps_indexAddr0 Z Z c36 Z) (Qx Z (Qr Z Z) (Qx Z (Jd Z Js Qy Qf Z Z) (GoP.oneN Z (Jd Z Qy Qy (idx_lt c36) Z Z) (Qk _ _ _ _ _ Jk (Ql _)) ?_)))
 have c37 := ck_l H; replace H := ck_r H
 refine Qx Z (ps_add Z Z Z c37) (Qx Z (ps_indexAddr0 Z Z c36 Z) (GoP.one1 Z Qq (ef_store Z Z Z Qy (upd_row1 (v := ((l29.getD ((((r12.getD k25 El.d).arcs).getD k34 (0 : Int)).toNat) (0 : Int)) + ((r12.getD k25 El.d).amount))) Z) (idx_lt c36) Z) (Qk _ _ _ _ _ Qp (Qk _ _ _ _ _ Qp (Ql _))) ?_))
 refine GoP.done (GoK.blk (Qd (Qc (Qa (ps_add Z Z Z hIk34) (Qa (Qj Z Z) (Qm ?_))))))
 obtain rfl := Qg H
 exact GoK.againJ m35' (by omega) ⟨_, _, ⟨by omega, hF31⟩, Z, Z⟩ (Qe Z (Jo Z (Jq (by first|rfl|omega|(simp only [row_len, gridC_len, rowO_len, List.length_set] <;>first|rfl|omega))) (Qe Z (Qe Z (Qe Z (Qe Z (Qe Z (Qe Z (Qe Z (Qe Z (Jc))))))))))) (Qn _ _ _ _ _ Qp (Qu _) (Qn _ _ _ _ _ Qp (Jh ⟨⟨Qq, Qb _⟩, Qb _⟩) (Qn _ _ _ _ _ Qp (Qu _) (Qn _ _ _ _ _ Qp (Qu _) (Qn _ _ _ _ _ Qp (Jh ⟨⟨⟨⟨Qq, Qb _⟩, Qb _⟩, Qb _⟩, Qb _⟩) (Qn _ _ _ _ _ Qp (Jh ⟨⟨⟨⟨Qq, Qb _⟩, Qb _⟩, Qb _⟩, Qb _⟩) (Qn _ _ _ _ _ Qp (Jh ⟨⟨⟨⟨Qq, Qb _⟩, Qb _⟩, Qb _⟩, Qb _⟩) (Jg _))))))))
 obtain rfl : m35 = 0 := by omega
 refine GoC.exit Z ?_
 cases hF31
 exact GoK.meet ⟨Z, Z⟩ (Jo Z (Jq (by first|rfl|omega|(simp only [row_len, gridC_len, rowO_len] <;>first|rfl|omega))) (Qe Z (Qe Z (Qe Z (Qe Z (Qe Z (Jc))))))) (Qn _ _ _ _ _ Qp (Qu _) (Qn _ _ _ _ _ Qp (Jh ⟨⟨Qq, Qb _⟩, Qb _⟩) (Qn _ _ _ _ _ Qp (Qu _) (Qn _ _ _ _ _ Qp (Qu _) (Qn _ _ _ _ _ Qp (Jh ⟨⟨⟨⟨Qq, Qb _⟩, Qb _⟩, Qb _⟩, Qb _⟩) (Qn _ _ _ _ _ Qp (Jh ⟨⟨⟨⟨Qq, Qb _⟩, Qb _⟩, Qb _⟩, Qb _⟩) (Qn _ _ _ _ _ Qp (Jh ⟨⟨⟨⟨Qq, Qb _⟩, Qb _⟩, Qb _⟩, Qb _⟩) (Jg _))))))))
 rintro v h ⟨rfl, rfl⟩
 have H := HK30; clear HK30
 refine GoK.blk (Qd (Qc (Qa (ps_add Z Z Z hIk25) (Qa (Qj Z Z) (Qm ?_)))))
 obtain rfl := Qg H
 exact GoK.againJ m26' (by omega) ⟨_, _, ⟨by omega, hF22⟩, Z, Z⟩ (Qe Z (Jo Z (Jq (by first|rfl|omega|(simp only [row_len, gridC_len, rowO_len] <;>first|rfl|omega))) (Qe Z (Qe Z (Qe Z (Qe Z (Jc))))))) (Qn _ _ _ _ _ Qp (Qu _) (Qn _ _ _ _ _ Jk (Qu _) (Qn _ _ _ _ _ Jk (Qu _) (Qn _ _ _ _ _ Jk (Jh ⟨⟨⟨⟨Qq, Qb _⟩, Qb _⟩, Qb _⟩, Qb _⟩) (Qn _ _ _ _ _ Jk (Jh ⟨⟨⟨⟨Qq, Qb _⟩, Qb _⟩, Qb _⟩, Qb _⟩) (Qn _ _ _ _ _ Jk (Jh ⟨⟨⟨⟨Qq, Qb _⟩, Qb _⟩, Qb _⟩, Qb _⟩) (Jg _)))))))
 obtain rfl : m26 = 0 := by omega
 refine GoC.exit Z ?_
 cases hF22
 exact GoK.meet ⟨Z, Z⟩ (Jo Z (Jq (by first|rfl|omega|(simp only [row_len, gridC_len, rowO_len] <;>first|rfl|omega))) (Qe Z (Qe Z (Jc)))) (Qn _ _ _ _ _ Qp (Qu _) (Qn _ _ _ _ _ Qp (Qu _) (Qn _ _ _ _ _ Qp (Qu _) (Qn _ _ _ _ _ Qp (Jh ⟨⟨⟨⟨Qq, Qb _⟩, Qb _⟩, Qb _⟩, Qb _⟩) (Qn _ _ _ _ _ Qp (Jh ⟨⟨⟨⟨Qq, Qb _⟩, Qb _⟩, Qb _⟩, Qb _⟩) (Qn _ _ _ _ _ Qp (Jh ⟨⟨⟨⟨Qq, Qb _⟩, Qb _⟩, Qb _⟩, Qb _⟩) (Jg _)))))))
 rintro v h ⟨rfl, rfl⟩
 have H := HK21; clear HK21
 refine Qd (Qi (Qc (Qa (Jr Z At.p3 At.p3 Qf Z Z) (Qa (Qj Z Z) ?_))))
 have hb := bind_l H; clear H
 obtain ⟨⟨r40, r42, r44, r45⟩, e46, H⟩ := hb
 refine GoO.effC (ef_call Z (Ql _) (Qk _ _ _ _ _ Qp (Ql _)) (repair_on_spec (⟨n.n, s, t, n.as⟩ : Net) l24 e46) (Qt (Lend.agA ⟨⟨⟨⟨Qq, Qo _ _⟩, Qo _ _⟩, Qo _ _⟩, Qo _ _⟩) (Qt (Lend.all' Qy (by first|rfl|omega|(simp only[szl]<;>first|rfl|omega)) Z) (Jj))) Z (repair_on_I (r40, r42, r44, r45))) (fun rr HH hp => ?_)
 obtain ⟨β41, β43, rfl, rfl⟩ := hp
 iterate 4 refine Qa (Jb Z Z Z) ?_
 refine GoO.eff1 (ef_storeAg Z Z At.p6 upd_whole Qf Z) ?_
 iterate 3 refine Qa (Qh Z Z) ?_
 refine Qm (Qd ?_)
 obtain rfl := Qg H
 exact Ja (ds := [.ag 4 (nth [.v (.int .i64 r40.n), .v (.int .i64 r40.s), .v (.int .i64 r40.t), .own β41 3 0 r40.as.length]), .own β43 1 0 r42.length, .v (.int .i64 r44), .v (.int .i64 r45)]) Try.results45 (Qs (ResD.le (ResD.cellAg Z At.p6 Qf Z) (by exact DLe.ag ⟨⟨⟨⟨Qq, Qb _⟩, Qb _⟩, Qb _⟩, Qb _⟩)) (Qs (Qw Z) (Qs (Qw Z) (Qs (Qw Z) (Qz))))) (Qk _ _ _ _ _ Qp (Qk _ _ _ _ _ Qp (Ql _))) ⟨β41, β43, Z, Z⟩
theorem repair_Ends_specF (n : Net) (f : (List Int)) (s : Int) (t : Int) {out : Net × (List Int) × Int × Int} (H : repair_Ends_F n f s t = some out) : Does Try.prog 45 [.ag 4 (nth [.v (.int .i64 n.n), .v (.int .i64 n.s), .v (.int .i64 n.t), slD n.as]), slD f, .v (.int .i64 s), .v (.int .i64 t)] [] (repair_Ends_PF out) :=
 Does.freeze (repair_Ends_spec n f s t H) fun d H hp => by
  obtain ⟨β1, β2, rfl, rfl⟩ := hp
  exact ⟨_, ⟨Z, Z⟩, Lend.tpL (Qt (Lend.agA ⟨⟨⟨⟨Qq, Qo _ _⟩, Qo _ _⟩, Qo _ _⟩, Lend.all' Qy Z Z⟩) (Qt (Lend.all' Js Z Z) (Qt (Qo _ _) (Qt (Qo _ _) (Jj)))))⟩
end Go.Proofs.Ytkfmphlnpmemdaa.Sx.Y
