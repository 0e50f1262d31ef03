import Derived.Test.YtkfmphlnpmemdaaQTys
import Derived.Test.YtkfmphlnpmemdaaQDA
import Derived.Test.YtkfmphlnpmemdaaQYGmost
import Derived.Test.YtkfmphlnpmemdaaQYGslices
import Derived.Test.YtkfmphlnpmemdaaQYGrepair
import Derived.Test.YtkfmphlnpmemdaaQCoN
set_option maxRecDepth 100000
set_option maxHeartbeats 4000000
set_option linter.unusedVariables false
set_option linter.unusedSimpArgs false
namespace Go.Proofs.Ytkfmphlnpmemdaa.Sx.Y
open Go Go.Proofs.Ytkfmphlnpmemdaa.Sx
theorem store_New_spec {out : Store} (H : store_New_F = some out) : Does Try.prog 28 [] [] (store_New_P out) := by
 unfold store_New_F at H
 refine Does.intro Try.func28 Z Try.ntmps28 Z fun w0 I0 tb0 => ?_
 refine Qi (Qc (Qa (Qh Z Z) (Qm (Qd (Qi (Qc (Qa (ps_build (Jl _ _ _ _ _ _ _ _ FdP.of (Part.one _ Z Z) Z Z (Jl _ _ _ _ _ _ _ _ FdP.of (Part.one _ Z Z) Z Z (Jl _ _ _ _ _ _ _ _ FdP.of (Part.one _ Z Z) Z Z (Parts.nil _)))) Z) (Qa (ps_build (Jl _ _ _ _ _ _ _ _ FdP.of (Part.ag _ _ Z) Z Z (Jl _ _ _ _ _ _ _ _ FdP.of (Part.one _ Z Z) Z Z (Parts.nil _))) Z) (Qa (ps_build (Jl _ _ _ _ _ _ _ _ FdP.of (Part.ag _ _ Z) Z Z (Parts.nil _)) Z) ?_)))))))))
 refine Jm (ef_boxAg Z Z) (fun β1 => ?_)
 refine Qa (Qh Z Z) (Qm (Qd ?_))
 obtain ⟨β2, hβ2⟩ : ∃ β : BK, β = ⟨0, 0, 0⟩ := ⟨_, rfl⟩
 refine GoC.le (le_row0 86 5 (row ([] : List StoreState)) Z) ?_
 rw [← hβ2]
 obtain ⟨β3, hβ3⟩ : ∃ β : BK, β = ⟨0, 0, 0⟩ := ⟨_, rfl⟩
 refine GoC.le (le_row0 9 1 (row ([] : List ByteArray)) Z) ?_
 rw [← hβ3]
 obtain ⟨β4, hβ4⟩ : ∃ β : BK, β = ⟨0, 0, 0⟩ := ⟨_, rfl⟩
 refine GoC.le (le_row0 86 5 (row ([] : List StoreState)) Z) ?_
 rw [← hβ4]
 refine GoC.le (Le.reH At.p3 (Jh (g' := nth [.v (.int .i64 2), .v (.int .i64 0), .v (.int .i64 1), slD ([] : List Arc), slD ([] : List Int), .own β2 5 0 (([] : List StoreState).length), .own β3 1 0 (([] : List ByteArray).length), .own β4 5 0 (([] : List StoreState).length)]) ⟨⟨⟨⟨⟨⟨⟨⟨Qq, Qb _⟩, Qb _⟩, Qb _⟩, DLe.nilSl⟩, DLe.nilSl⟩, (by rw [hβ2]; exact DLe.nilOwn)⟩, (by rw [hβ3]; exact DLe.nilOwn)⟩, (by rw [hβ4]; exact DLe.nilOwn)⟩)) ?_
 obtain rfl := Qg H
 exact Ja (ds := [.ptr β1 8 0 0]) Try.results28 (Qs (Qw Z) (Qz)) (Qk _ _ _ _ _ Rem.p3 (Qk _ _ _ _ _ Rem.p2 (Qk _ _ _ _ _ Jk (Qk _ _ _ _ _ Qp (Ql _))))) ⟨β1, β2, β3, β4, Z, Z⟩
theorem store_set_spec (s : Store) (n : Net) (f : (List Int)) (e_ : Int) (βs : BK) (βs_1 : BK) (βs_2 : BK) (βs_3 : BK) {out : Int × Int × Store} (H : store_set_F s n f e_ = some out) : Does Try.prog 40 [.ptr βs 8 0 0, .ag 4 (nth [.v (.int .i64 n.n), .v (.int .i64 n.s), .v (.int .i64 n.t), slD n.as]), slD f, .v (.int .i64 e_)] [.one βs 90 8 (st1 (nth [.v (.int .i64 s.now.net.n), .v (.int .i64 s.now.net.s), .v (.int .i64 s.now.net.t), slD s.now.net.as, slD s.now.flow, .own βs_1 5 0 s.old.length, .own βs_2 1 0 s.names.length, .own βs_3 5 0 s.saved.length])), .one βs_1 86 5 (row s.old), .one βs_2 9 1 (row s.names), .one βs_3 86 5 (row s.saved)] (store_set_P out βs βs_1 βs_2 βs_3) := by
 unfold store_set_F at H
 refine Does.intro Try.func40 Z Try.ntmps40 Z fun w0 I0 tb0 => ?_
 refine Qi (Qc (Jm (ef_boxAg Z Z) (fun β1 => ?_)))
 iterate 2 refine Qa (Qh Z Z) ?_
 refine Qm (Qd (Qi (Qi (Qc (Qa (Qj Z Z) (Qa (ps_neq Z Z Z) (Qm (Qd (Jf Z (fun h2 => ?_) (fun h2 => ?_))))))))))
 replace H := ite_t h2 H
 refine Qi (Qc (Qa (Qj Z Z) ?_))
 iterate 2 refine Qa (Qh Z Z) ?_
 refine Qm (Qd ?_)
 obtain rfl := Qg H
 exact Ja (ds := [.v (.int .i64 0), .v (.int .i64 e_)]) Try.results40 (Qs (Qw Z) (Qs (Qw Z) (Qz))) (Qk _ _ _ _ _ Jk (Qk _ _ _ _ _ Jk (Qk _ _ _ _ _ Jk (Qk _ _ _ _ _ Jk (Ql _))))) ⟨βs_1, βs_2, βs_3, Z, Z⟩
 replace H := ite_f h2 H
 refine Ji (Qd (Qi (GoC.drawQ (.q 0 (.q 1 (.q 2 (.q 3 (.q 4 (.q 5 (.q 6 (.q 7 (.q 8 (.one 9 (.one 10 (.q 11 (.q 12 (.one 13 (.done))))))))))))))) 10 follows (by kernel_rfl) ?_)))
 iterate 2 refine GoQ.qP Z Z (Qj Z Z) ?_
 refine GoQ.qP Z Z (ps_nilCheck Z Z) (GoQ.qP Z Z (Qr Z Z) (GoQ.qN Z (by kernel_rfl) (Jd Z Js Js Qf Z Z) ?_))
 refine GoQ.qP Z Z (Qj Z Z) (GoQ.qP Z Z (ps_nilCheck Z Z) (GoQ.qP Z Z (Qr Z Z) (GoQ.qN Z (by kernel_rfl) (Jr Z Js Js Qf Z Z) ?_)))
 refine GoQ.oneB Z Z Qq (ef_buildSlice (row ([s.now] : List StoreState)) Z (Jl _ _ _ _ _ _ _ _ ⟨Z, Z⟩ (Part.ag _ _ Z) Z Z (Parts.nil _)) Z Z Z Z) (Qk _ _ _ _ _ Qp (Qk _ _ _ _ _ Qp (Qk _ _ _ _ _ Qp (Qk _ _ _ _ _ Qp (Qk _ _ _ _ _ Qp (Ql _)))))) (fun β3 => ?_)
 have c5 := ck_l H; replace H := ck_r H
 refine GoQ.lastB Z Qq (ef_append Z Z Rem.p3 (Src.own Qy (by first | omega | (simp only [szl]; omega) | (simp only [szl]; done))) (cat_row (α := StoreState) (by first|rfl|omega|(simp only[szl]<;>first|rfl|omega)) (by first|rfl|omega|(simp only[szl]<;>first|rfl|omega)) (fun _ _ _ _ => Z)) (by first | omega | (simp only [szl]; omega) | (simp only [szl]; done)) (app_le c5 Z) Z Z Z) (Qk _ _ _ _ _ Rem.p3 (Ql _)) (fun β4 => ?_)
 refine Qx Z (ps_nilCheck Z Z) (Qx Z (Qr Z Z) (GoP.one1 Z Qq (ef_store Z Z Z At.p3 upd_st1 Qf Z) (Qk _ _ _ _ _ Rem.p3 (Ql _)) (GoP.done (Qd ?_))))
 have hb := bind_l H; clear H
 obtain ⟨z6, H, HK10⟩ := hb
 refine GoC.seqJ [(2, slD f), (5, .ptr β1 4 0 0)] [.one β3 86 5 (row ([s.now] : List StoreState)), .one β1 35 4 (st1 (nth [.v (.int .i64 n.n), .v (.int .i64 n.s), .v (.int .i64 n.t), slD n.as]))] (fun v h => ∃ (β7 : BK) (β8 : BK) (β9 : BK), v = [(0, .ptr βs 8 0 0)] ∧ h = [.one βs 90 8 (st1 (nth [.v (.int .i64 z6.now.net.n), .v (.int .i64 z6.now.net.s), .v (.int .i64 z6.now.net.t), slD z6.now.net.as, slD z6.now.flow, .own β7 5 0 z6.old.length, .own β8 1 0 z6.names.length, .own β9 5 0 z6.saved.length])), .one β7 86 5 (row z6.old), .one β8 9 1 (row z6.names), .one β9 86 5 (row z6.saved)]) ?_ ?_
 refine Qi (Qc (Qa (Qj Z Z) (Qa (ps_nilCheck Z Z) (Qa (Qr Z Z) (Qa (Jd Z At.p3 At.p3 Qf Z Z) (Qa (ps_len Z (by constructor) Z) ?_))))))
 refine GoO.lenLe (n := (s.old.length + 1)) (x := .tmp 29) Z (by constructor) own_lenLe (fun ml12 => ?_)
 refine Qa (ps_gtr Z Z Z) (Qm (Qd (Jf Z (fun h13 => ?_) (fun h13 => ?_))))
 replace H := ite_t h13 H
 refine Qc ?_
 iterate 2 refine Qa (Qj Z Z) ?_
 refine Qa (ps_nilCheck Z Z) (Qa (Qr Z Z) (Qa (Jd Z At.p3 At.p3 Qf Z Z) ?_))
 have c14 := ck_l H; replace H := ck_r H
 refine Qa (ps_slice Z (Bd.nat _ _ 1 _ Z) (Bd.no _) c14 (Nat.le_refl _) Z) (Qa (ps_nilCheck Z Z) (Qa (Qr Z Z) ?_))
 have c16 := ck_l H; replace H := ck_r H
 refine GoO.eff1 (ef_store Z Z Z At.p3 upd_st1 Qf Z) (GoO.le (Le.reH At.p3 (Jh (g' := nth [.v (.int .i64 s.now.net.n), .v (.int .i64 s.now.net.s), .v (.int .i64 s.now.net.t), slD s.now.net.as, slD s.now.flow, .own (⟨β4.b, β4.o + (1 + 0) * 5, β4.s - (1 + 0)⟩ : BK) 5 0 ((s.old.length + 1) - 1), .own βs_2 1 0 s.names.length, .own βs_3 5 0 s.saved.length]) ⟨⟨⟨⟨⟨⟨⟨⟨Qq, Qb _⟩, Qb _⟩, Qb _⟩, Qb _⟩, Qb _⟩, DLe.shiftR⟩, Qb _⟩, Qb _⟩)) ?_)
 refine GoO.le (Le.shiftRow (r := 1 + 0) (len := ((s.old.length + 1) - 1)) Qy (by have hz := c16; simp only [row_len]; omega)) ?_
 refine GoO.le (Le.reH Qy (HLe.part (xs := (s.old ++ ([s.now] : List StoreState))) (r := 1 + 0) (len := ((s.old.length + 1) - 1)) (by have hz := c16; omega))) ?_
 generalize (⟨β4.b, β4.o + (1 + 0) * 5, β4.s - (1 + 0)⟩ : BK) = β15
 refine Qm ?_
 cases H
 exact GoK.meet ⟨β15, βs_2, βs_3, Z, Z⟩ (Qe Z (Qe Z (Qe Z (Jc)))) (Qn _ _ _ _ _ Rem.p3 (Jh ⟨⟨⟨⟨⟨⟨⟨⟨Qq, Qb _⟩, Qb _⟩, Qb _⟩, Qb _⟩, Qb _⟩, Jq (by first|rfl|omega|(simp only [row_len, gridC_len, rowO_len, List.length_append, List.length_cons, List.length_nil, subl_length] <;>first|rfl|omega))⟩, Jq (by first|rfl|omega|(simp only [row_len, gridC_len, rowO_len] <;>first|rfl|omega))⟩, Jq (by first|rfl|omega|(simp only [row_len, gridC_len, rowO_len] <;>first|rfl|omega))⟩) (Qn _ _ _ _ _ Qp (Qu _) (Qn _ _ _ _ _ Rem.p2 (Qu _) (Qn _ _ _ _ _ Rem.p2 (Qu _) (Qn _ _ _ _ _ Qp (Qu _) (Qn _ _ _ _ _ Qp (Jh ⟨⟨⟨⟨Qq, Qb _⟩, Qb _⟩, Qb _⟩, Qb _⟩) (Jg _)))))))
 replace H := ite_f h13 H
 refine Ji ?_
 cases H
 exact GoK.meet ⟨β4, βs_2, βs_3, Z, Z⟩ (Qe Z (Qe Z (Qe Z (Jc)))) (Qn _ _ _ _ _ Rem.p3 (Jh ⟨⟨⟨⟨⟨⟨⟨⟨Qq, Qb _⟩, Qb _⟩, Qb _⟩, Qb _⟩, Qb _⟩, Jq (by first|rfl|omega|(simp only [row_len, gridC_len, rowO_len, List.length_append, List.length_cons, List.length_nil] <;>first|rfl|omega))⟩, Jq (by first|rfl|omega|(simp only [row_len, gridC_len, rowO_len] <;>first|rfl|omega))⟩, Jq (by first|rfl|omega|(simp only [row_len, gridC_len, rowO_len] <;>first|rfl|omega))⟩) (Qn _ _ _ _ _ Qp (Qu _) (Qn _ _ _ _ _ Rem.p2 (Qu _) (Qn _ _ _ _ _ Rem.p2 (Qu _) (Qn _ _ _ _ _ Qp (Qu _) (Qn _ _ _ _ _ Qp (Jh ⟨⟨⟨⟨Qq, Qb _⟩, Qb _⟩, Qb _⟩, Qb _⟩) (Jg _)))))))
 rintro v h ⟨β7, β8, β9, rfl, rfl⟩
 have H := HK10; clear HK10
 refine Qi (Qc (Qa (Qj Z Z) (Qa (Jr Z At.p5 At.p5 Qf Z Z) (Qa (Qj Z Z) (Qa (ps_build (Jl _ _ _ _ _ _ _ _ FdP.of (Part.ag _ _ Z) Z Z (Jl _ _ _ _ _ _ _ _ FdP.of (Part.one _ Z Z) Z Z (Parts.nil _))) Z) (Qa (ps_nilCheck Z Z) ?_))))))
 refine Qa (Qr Z Z) (GoO.eff1 (ef_storeAg Z Z Qy upd_stN Qf Z) (GoO.le (Le.reH Qy (Jh (g' := nth [.v (.int .i64 n.n), .v (.int .i64 n.s), .v (.int .i64 n.t), slD n.as, slD f, .own β7 5 0 z6.old.length, .own β8 1 0 z6.names.length, .own β9 5 0 z6.saved.length]) ⟨⟨⟨⟨⟨⟨⟨⟨Qq, Qb _⟩, Qb _⟩, Qb _⟩, Qb _⟩, Qb _⟩, Qb _⟩, Qb _⟩, Qb _⟩)) ?_))
 refine Qm (Qd (Qi (Qc ?_)))
 iterate 2 refine Qa (Qh Z Z) ?_
 refine Qm (Qd ?_)
 obtain rfl := Qg H
 exact Ja (ds := [.v (.int .i64 0), .v (.int .i64 0)]) Try.results40 (Qs (Qw Z) (Qs (Qw Z) (Qz))) (Qk _ _ _ _ _ Qp (Qk _ _ _ _ _ Qp (Qk _ _ _ _ _ Qp (Qk _ _ _ _ _ Qp (Ql _))))) ⟨β7, β8, β9, Z, Z⟩
theorem store_undo_spec (s : Store) (βs : BK) (βs_1 : BK) (βs_2 : BK) (βs_3 : BK) {out : Int × Int × Store} (H : store_undo_F s = some out) : Does Try.prog 46 [.ptr βs 8 0 0] [.one βs 90 8 (st1 (nth [.v (.int .i64 s.now.net.n), .v (.int .i64 s.now.net.s), .v (.int .i64 s.now.net.t), slD s.now.net.as, slD s.now.flow, .own βs_1 5 0 s.old.length, .own βs_2 1 0 s.names.length, .own βs_3 5 0 s.saved.length])), .one βs_1 86 5 (row s.old), .one βs_2 9 1 (row s.names), .one βs_3 86 5 (row s.saved)] (store_undo_P out βs βs_1 βs_2 βs_3) := by
 unfold store_undo_F at H
 refine Does.intro Try.func46 Z Try.ntmps46 Z fun w0 I0 tb0 => ?_
 refine Qi (Qc ?_)
 iterate 2 refine Qa (Qh Z Z) ?_
 refine Qm (Qd (Qi (Qi (Qc (Qa (Qj Z Z) (Qa (ps_nilCheck Z Z) (Qa (Qr Z Z) (Qa (Jd Z Qy Qy Qf Z Z) (Qa (ps_len Z (by constructor) Z) ?_)))))))))
 refine GoO.lenLe (n := s.old.length) (x := .tmp 7) Z (by constructor) own_lenLe (fun ml1 => ?_)
 refine Qa (ps_eql Z Z Z) (Qm (Qd (Jf Z (fun h2 => ?_) (fun h2 => ?_))))
 replace H := ite_t h2 H
 refine Qi (Qc ?_)
 iterate 2 refine Qa (Qh Z Z) ?_
 refine Qm (Qd ?_)
 obtain rfl := Qg H
 exact Ja (ds := [.v (.int .i64 0), .v (.int .i64 5)]) Try.results46 (Qs (Qw Z) (Qs (Qw Z) (Qz))) (Qk _ _ _ _ _ Qp (Qk _ _ _ _ _ Qp (Qk _ _ _ _ _ Qp (Qk _ _ _ _ _ Qp (Ql _))))) ⟨βs_1, βs_2, βs_3, Z, Z⟩
 replace H := ite_f h2 H
 refine Ji (Qd (Qi (GoC.drawQ (.q 0 (.q 1 (.q 2 (.q 3 (.q 4 (.q 5 (.q 6 (.q 7 (.q 8 (.q 9 (.q 10 (.q 11 (.q 12 (.q 13 (.q 14 (.one 15 (.done))))))))))))))))) 15 follows (by kernel_rfl) ?_)))
 iterate 2 refine GoQ.qP Z Z (Qj Z Z) ?_
 refine GoQ.qP Z Z (ps_nilCheck Z Z) (GoQ.qP Z Z (Qr Z Z) (GoQ.qN Z (by kernel_rfl) (Jd Z Qy Qy Qf Z Z) ?_))
 refine GoQ.qP Z Z (Qj Z Z) (GoQ.qP Z Z (ps_nilCheck Z Z) (GoQ.qP Z Z (Qr Z Z) (GoQ.qN Z (by kernel_rfl) (Jd Z Qy Qy Qf Z Z) ?_)))
 refine GoQ.qP Z Z (ps_len Z (by constructor) Z) ?_
 have c3 := ck_l H; replace H := ck_r H
 refine GoQ.qP Z Z (ps_sub Z Z Z c3) ?_
 have c4 := ck_l H; replace H := ck_r H
 refine GoQ.qP Z Z (ps_indexAddr0 Z Z c4 Z) (GoQ.qN Z (by kernel_rfl) (Jr Z Js Js (idx_lt c4) Z Z) ?_)
 refine GoQ.qP Z Z (ps_nilCheck Z Z) (GoQ.qP Z Z (Qr Z Z) (GoQ.last1 Z Qq (ef_storeAg Z Z Qy upd_stN Qf Z) (Qk _ _ _ _ _ Qp (Ql _)) (GoP.leD (Le.reH Qy (Jh (g' := nth [.v (.int .i64 (((s.old.getD ((((s.old.length : Nat) : Int) - 1).toNat) El.d).net).n)), .v (.int .i64 (((s.old.getD ((((s.old.length : Nat) : Int) - 1).toNat) El.d).net).s)), .v (.int .i64 (((s.old.getD ((((s.old.length : Nat) : Int) - 1).toNat) El.d).net).t)), slD (((s.old.getD ((((s.old.length : Nat) : Int) - 1).toNat) El.d).net).as), slD ((s.old.getD ((((s.old.length : Nat) : Int) - 1).toNat) El.d).flow), .own βs_1 5 0 s.old.length, .own βs_2 1 0 s.names.length, .own βs_3 5 0 s.saved.length]) ⟨⟨⟨⟨⟨⟨⟨⟨Qq, Qb _⟩, Qb _⟩, Qb _⟩, Qb _⟩, Qb _⟩, Qb _⟩, Qb _⟩, Qb _⟩)) ?_)))
 refine GoP.done (Qd (Qi (GoC.drawQ (.q 0 (.q 1 (.q 2 (.q 3 (.q 4 (.q 5 (.q 6 (.q 7 (.q 8 (.q 9 (.q 10 (.q 11 (.q 12 (.q 13 (.one 14 (.done)))))))))))))))) 14 follows (by kernel_rfl) ?_)))
 iterate 2 refine GoQ.qP Z Z (Qj Z Z) ?_
 refine GoQ.qP Z Z (ps_nilCheck Z Z) (GoQ.qP Z Z (Qr Z Z) (GoQ.qN Z (by kernel_rfl) (Jd Z Qy Qy Qf Z Z) ?_))
 refine GoQ.qP Z Z (Qj Z Z) (GoQ.qP Z Z (ps_nilCheck Z Z) (GoQ.qP Z Z (Qr Z Z) (GoQ.qN Z (by kernel_rfl) (Jd Z Qy Qy Qf Z Z) ?_)))
 refine GoQ.qP Z Z (ps_len Z (by constructor) Z) ?_
 refine GoQ.qP Z Z (ps_sub Z Z Z c3) ?_
 have c5 := ck_l H; replace H := ck_r H
 have c6 := ck_l H; replace H := ck_r H
 refine GoQ.qP Z Z (ps_slice Z (Bd.no _) (Bd.int _ _ _ _ Z c5) (Nat.zero_le _) c6 Z) (GoQ.qP Z Z (ps_nilCheck Z Z) (GoQ.qP Z Z (Qr Z Z) ?_))
 have c8 := ck_l H; replace H := ck_r H
 refine GoQ.last1 Z Qq (ef_store Z Z Z Qy upd_st1 Qf Z) (Qk _ _ _ _ _ Qp (Ql _)) (GoP.leD (Le.reH Qy (Jh (g' := nth [.v (.int .i64 (((s.old.getD ((((s.old.length : Nat) : Int) - 1).toNat) El.d).net).n)), .v (.int .i64 (((s.old.getD ((((s.old.length : Nat) : Int) - 1).toNat) El.d).net).s)), .v (.int .i64 (((s.old.getD ((((s.old.length : Nat) : Int) - 1).toNat) El.d).net).t)), slD (((s.old.getD ((((s.old.length : Nat) : Int) - 1).toNat) El.d).net).as), slD ((s.old.getD ((((s.old.length : Nat) : Int) - 1).toNat) El.d).flow), .own (⟨βs_1.b, βs_1.o + (0 + 0) * 5, βs_1.s - (0 + 0)⟩ : BK) 5 0 ((((s.old.length : Nat) : Int) - 1).toNat), .own βs_2 1 0 s.names.length, .own βs_3 5 0 s.saved.length]) ⟨⟨⟨⟨⟨⟨⟨⟨Qq, Qb _⟩, Qb _⟩, Qb _⟩, Qb _⟩, Qb _⟩, DLe.shiftR⟩, Qb _⟩, Qb _⟩)) ?_)
 refine GoP.leD (Le.shiftRow (r := 0 + 0) (len := ((((s.old.length : Nat) : Int) - 1).toNat)) Js (by have hz := c8; simp only [row_len]; omega)) ?_
 refine GoP.leD (Le.reH Js (HLe.part (xs := s.old) (r := 0 + 0) (len := ((((s.old.length : Nat) : Int) - 1).toNat)) (by have hz := c8; omega))) ?_
 generalize (⟨βs_1.b, βs_1.o + (0 + 0) * 5, βs_1.s - (0 + 0)⟩ : BK) = β7
 refine GoP.done (Qd (Qi (Qc ?_)))
 iterate 2 refine Qa (Qh Z Z) ?_
 refine Qm (Qd (GoC.le (Le.reH Qy (Jh (g' := nth [.v (.int .i64 (((s.old.getD ((((s.old.length : Nat) : Int) - 1).toNat) El.d).net).n)), .v (.int .i64 (((s.old.getD ((((s.old.length : Nat) : Int) - 1).toNat) El.d).net).s)), .v (.int .i64 (((s.old.getD ((((s.old.length : Nat) : Int) - 1).toNat) El.d).net).t)), slD (((s.old.getD ((((s.old.length : Nat) : Int) - 1).toNat) El.d).net).as), slD ((s.old.getD ((((s.old.length : Nat) : Int) - 1).toNat) El.d).flow), .own β7 5 0 ((subl s.old 0 ((((s.old.length : Nat) : Int) - 1).toNat)).length), .own βs_2 1 0 s.names.length, .own βs_3 5 0 s.saved.length]) ⟨⟨⟨⟨⟨⟨⟨⟨Qq, Qb _⟩, Qb _⟩, Qb _⟩, Qb _⟩, Qb _⟩, Jq (by first|rfl|omega|(simp only [row_len, gridC_len, rowO_len, subl_length] <;>first|rfl|omega))⟩, Qb _⟩, Qb _⟩)) ?_))
 obtain rfl := Qg H
 exact Ja (ds := [.v (.int .i64 0), .v (.int .i64 0)]) Try.results46 (Qs (Qw Z) (Qs (Qw Z) (Qz))) (Qk _ _ _ _ _ Qp (Qk _ _ _ _ _ Qp (Qk _ _ _ _ _ Qp (Qk _ _ _ _ _ Qp (Ql _))))) ⟨β7, βs_2, βs_3, Z, Z⟩
theorem store_name_I (out : Int) : IndepP (store_name_P out) := IndepP.of (by rintro _ _ ⟨rfl, rfl⟩; exact ⟨inferInstance, inferInstance⟩)
theorem store_name_spec (text : ByteArray) {out : Int} (H : store_name_F text = some out) : Does Try.prog 61 [.v (.string text)] [] (store_name_P out) := by
 unfold store_name_F at H
 refine Does.intro Try.func61 Z Try.ntmps61 Z fun w0 I0 tb0 => ?_
 refine Qi (Qc (Qa (Qh Z Z) (Qm (Qd (Qi (Qi (Qc (Qa (Qj Z Z) (Qa (ps_lenS Z Z) (Qa (ps_lss Z Z Z) ?_))))))))))
 refine Qa (Qj Z Z) (GoO.guardE Z Z Z Z (fun h1 => ?_) (fun h1 => ?_))
 replace H := ite_f h1 H
 refine Qa (Qj Z Z) (Je Z Z Z (Qa (ps_lenS Z Z) (Je Z Z Z (Qa (ps_gtr Z Z Z) (Qa (ps_pickF Z Z Z) ?_)))))
 refine Qm (Qd (Jf Z (fun h2 => ?_) (fun h2 => ?_)))
 replace H := ite_t h2 H
 refine Qi (Qc (Qa (Qh Z Z) (Qm (Qd ?_))))
 obtain rfl := Qg H
 exact Ja (ds := [.v (.int .i64 3)]) Try.results61 (Qs (Qw Z) (Qz)) (Ql _) ⟨Z, Z⟩
 replace H := ite_f h2 H
 refine Ji (Qd (Qi (Qi (Qc (Qa (Qj Z Z) ?_)))))
 have c3 := ck_l H; replace H := ck_r H
 refine GoO.bytes Z c3 Z (Qa (ps_len Z (by constructor) Z) ?_)
 refine GoO.lenLe (n := (bytesL text).length) (x := .tmp 14) Z (by constructor) sl_lenLe (fun ml4 => ?_)
 refine Qa (Qj Z Z) (Qm (Qd ?_))
 have hb := bind_l H; clear H
 obtain ⟨q7, hl12, HK5⟩ := hb
 refine GoC.blockJ [] [] (fun v h => q7 = .go () ∧ v = [] ∧ h = []) ?_ ?_
 refine GoC.loopJ [(14, _), (15, _)] [] (fun mQ v h => ∃ (k8 : Nat), (k8 + mQ = (bytesL text).length ∧ forC (store_name_B1 text) mQ k8 () = some q7) ∧ v = [(16, .v (.int .i64 ((k8 : Nat) : Int)))] ∧ h = []) ((bytesL text).length) ⟨_, ⟨by omega, hl12⟩, Z, Z⟩ (Qe Z (Qe Z (Qe Z (Jc)))) (Jg _) ?_
 rintro m9 v h ⟨k8, ⟨hkk8, hF6⟩, rfl, rfl⟩
 refine Qi (Qc (Qa (ps_lss Z Z Z) (Qm (Qd (Qi (Jf Z (fun (hk8 : (k8 : Int) < (((bytesL text).length : Nat) : Int)) => ?_) (fun (hk8 : ¬ (k8 : Int) < (((bytesL text).length : Nat) : Int)) => ?_)))))))
 obtain ⟨m9', rfl⟩ : ∃ x, m9 = x + 1 := ⟨m9 - 1, by omega⟩
 have hb := bind_l hF6; clear hF6
 obtain ⟨qrm9, H, hF6⟩ := hb
 have hnk8 : k8 < (bytesL text).length := by omega
 have hIk8 : InI ((k8 : Int) + 1) := inI_len hk8 ml4
 refine Ji (Qd (Qi (GoC.block (Qi (Qc (Qa (Jn Z Z hnk8 Z) (Qa (ps_loadR Z hnk8 Z Z) (Qa (Qh Z Z) (Qm (Qd (Qi (Qc (Qa (Qj Z Z) ?_)))))))))))))
 refine Qa (ps_lss Z Z Z) (Qa (Qj Z Z) (GoO.guardE Z Z Z Z (fun h10 => ?_) (fun h10 => ?_)))
 replace H := ite_f h10 H
 refine Qa (Qj Z Z) (Je Z Z Z (Qa (ps_gtr Z Z Z) (Qa (ps_pickF Z Z Z) (Qm (Qd (Jf Z (fun h11 => ?_) (fun h11 => ?_)))))))
 replace H := ite_t h11 H
 refine Qi (Qc (Qa (Qh Z Z) (Qm (Qd ?_))))
 obtain rfl := Qg H
 obtain rfl := Qg hF6
 obtain rfl := Qg HK5
 exact Ja (ds := [.v (.int .i64 3)]) Try.results61 (Qs (Qw Z) (Qz)) (Ql _) ⟨Z, Z⟩
 replace H := ite_f h11 H
 refine Ji (GoK.blk (Qd (Qc (Qa (ps_add Z Z Z hIk8) (Qa (Qj Z Z) (Qm ?_))))))
 obtain rfl := Qg H
 exact GoK.againJ m9' (by omega) ⟨_, ⟨by omega, hF6⟩, Z, Z⟩ (Qe Z (Qe Z (Qe Z (Jc)))) (Jg _)
 replace H := ite_t h10 H
 refine Qv Z Z Z Z (Qa (ps_pickT Z Z Z) (Qm (Qd (GoC.condT Z (Qi (Qc (Qa (Qh Z Z) ?_)))))))
 refine Qm (Qd ?_)
 obtain rfl := Qg H
 obtain rfl := Qg hF6
 obtain rfl := Qg HK5
 exact Ja (ds := [.v (.int .i64 3)]) Try.results61 (Qs (Qw Z) (Qz)) (Ql _) ⟨Z, Z⟩
 obtain rfl : m9 = 0 := by omega
 refine GoC.exit Z ?_
 cases hF6
 exact GoK.meet ⟨Z, Z, Z⟩ (Jc) (Jg _)
 rintro v h ⟨rfl, rfl, rfl⟩
 have H := HK5; clear HK5
 refine Qd (Qi (Qc (Qa (Qh Z Z) (Qm (Qd ?_)))))
 obtain rfl := Qg H
 exact Ja (ds := [.v (.int .i64 0)]) Try.results61 (Qs (Qw Z) (Qz)) (Ql _) ⟨Z, Z⟩
 replace H := ite_t h1 H
 iterate 2 refine Qv Z Z Z Z ?_
 refine Qa (ps_pickT Z Z Z) (Qm (Qd (GoC.condT Z (Qi (Qc (Qa (Qh Z Z) (Qm (Qd ?_))))))))
 obtain rfl := Qg H
 exact Ja (ds := [.v (.int .i64 3)]) Try.results61 (Qs (Qw Z) (Qz)) (Ql _) ⟨Z, Z⟩
theorem store_save_spec (s : Store) (text : ByteArray) (βs : BK) (βs_1 : BK) (βs_2 : BK) (βs_3 : BK) {out : Int × Int × Store} (H : store_save_F s text = some out) : Does Try.prog 47 [.ptr βs 8 0 0, .v (.string text)] [.one βs 90 8 (st1 (nth [.v (.int .i64 s.now.net.n), .v (.int .i64 s.now.net.s), .v (.int .i64 s.now.net.t), slD s.now.net.as, slD s.now.flow, .own βs_1 5 0 s.old.length, .own βs_2 1 0 s.names.length, .own βs_3 5 0 s.saved.length])), .one βs_1 86 5 (row s.old), .one βs_2 9 1 (row s.names), .one βs_3 86 5 (row s.saved)] (store_save_P out βs βs_1 βs_2 βs_3) := by
 unfold store_save_F at H
 refine Does.intro Try.func47 Z Try.ntmps47 Z fun w0 I0 tb0 => ?_
 refine Qi (Qc ?_)
 iterate 2 refine Qa (Qh Z Z) ?_
 refine Qm (Qd (Qi (Qi (Qc (Qa (Qj Z Z) ?_)))))
 have hb := bind_l H; clear H
 obtain ⟨r1, e2, H⟩ := hb
 refine GoO.effC (ef_call Z (Ql _) (Ql _) (store_name_spec text e2) (Qt (Qo _ _) (Jj)) Z (store_name_I (r1))) (fun rr HH hp => ?_)
 obtain ⟨rfl, rfl⟩ := hp
 refine Qa (Qh Z Z) (Qm (Qd (Qi (Qc (Qa (Qj Z Z) (Qa (ps_neq Z Z Z) (Qm (Qd (Jf Z (fun h3 => ?_) (fun h3 => ?_))))))))))
 replace H := ite_t h3 H
 refine Qi (Qc (Qa (Qj Z Z) ?_))
 iterate 2 refine Qa (Qh Z Z) ?_
 refine Qm (Qd ?_)
 obtain rfl := Qg H
 exact Ja (ds := [.v (.int .i64 0), .v (.int .i64 r1)]) Try.results47 (Qs (Qw Z) (Qs (Qw Z) (Qz))) (Qk _ _ _ _ _ Qp (Qk _ _ _ _ _ Qp (Qk _ _ _ _ _ Qp (Qk _ _ _ _ _ Qp (Ql _))))) ⟨βs_1, βs_2, βs_3, Z, Z⟩
 replace H := ite_f h3 H
 refine Ji (Qd (Qi (Qi (Qc (Qa (Qj Z Z) (Qa (ps_nilCheck Z Z) (Qa (Qr Z Z) (Qa (Jd Z Qy Qy Qf Z Z) (Qa (Qj Z Z) ?_)))))))))
 have hb := bind_l H; clear H
 obtain ⟨r4, e5, H⟩ := hb
 refine GoO.effC (ef_call Z (Ql _) (Qk _ _ _ _ _ Rem.p2 (Ql _)) (slices_Index_string_spec s.names text e5) (Qt (Lend.all' Qy (by first|rfl|omega|(simp only[szl]<;>first|rfl|omega)) Z) (Qt (Qo _ _) (Jj))) Z (slices_Index_string_I (r4))) (fun rr HH hp => ?_)
 obtain ⟨rfl, rfl⟩ := hp
 refine Qa (Qh Z Z) (Qm (Qd (Qi (Qc (Qa (Qj Z Z) (Qa (ps_geq Z Z Z) (Qm (Qd (Jf Z (fun h6 => ?_) (fun h6 => ?_))))))))))
 replace H := ite_t h6 H
 refine Qi (GoC.drawQ (.q 0 (.q 1 (.q 2 (.q 3 (.q 4 (.q 5 (.q 6 (.q 7 (.q 8 (.q 9 (.one 10 (.done)))))))))))) 10 follows (by kernel_rfl) ?_)
 refine GoQ.qP Z Z (Qj Z Z) (GoQ.qP Z Z (ps_nilCheck Z Z) (GoQ.qP Z Z (Qr Z Z) (GoQ.qN Z (by kernel_rfl) (Jd Z Qy Qy Qf Z Z) ?_)))
 iterate 2 refine GoQ.qP Z Z (Qj Z Z) ?_
 refine GoQ.qP Z Z (ps_nilCheck Z Z) (GoQ.qP Z Z (Qr Z Z) (GoQ.qN Z (by kernel_rfl) (Jr Z Qy Qy Qf Z Z) ?_))
 have c7 := ck_l H; replace H := ck_r H
 refine GoQ.qP Z Z (ps_indexAddr0 Z Z c7 Z) (GoQ.last1 Z Qq (ef_storeAg Z Z At.p3 (upd_rowN (v := s.now) ⟨⟨⟨⟨⟨Qq, Z⟩, Z⟩, Z⟩, Z⟩, Z⟩) (idx_lt c7) Z) (Qk _ _ _ _ _ Rem.p3 (Ql _)) ?_)
 refine GoP.done (Qd (Qi (Qc ?_)))
 iterate 2 refine Qa (Qh Z Z) ?_
 refine Qm (Qd (GoC.le (Le.reH Qy (Jh (g' := nth [.v (.int .i64 s.now.net.n), .v (.int .i64 s.now.net.s), .v (.int .i64 s.now.net.t), slD s.now.net.as, slD s.now.flow, .own βs_1 5 0 s.old.length, .own βs_2 1 0 s.names.length, .own βs_3 5 0 ((s.saved.set r4.toNat s.now).length)]) ⟨⟨⟨⟨⟨⟨⟨⟨Qq, Qb _⟩, Qb _⟩, Qb _⟩, Qb _⟩, Qb _⟩, Qb _⟩, Qb _⟩, Jq (by first|rfl|omega|(simp only [row_len, gridC_len, rowO_len, List.length_set] <;>first|rfl|omega))⟩)) ?_))
 obtain rfl := Qg H
 exact Ja (ds := [.v (.int .i64 0), .v (.int .i64 0)]) Try.results47 (Qs (Qw Z) (Qs (Qw Z) (Qz))) (Qk _ _ _ _ _ Qp (Qk _ _ _ _ _ Qp (Qk _ _ _ _ _ Qp (Qk _ _ _ _ _ Qp (Ql _))))) ⟨βs_1, βs_2, βs_3, Z, Z⟩
 replace H := ite_f h6 H
 refine Ji (Qd (Qi (Qi (Qc (Qa (Qj Z Z) (Qa (ps_nilCheck Z Z) (Qa (Qr Z Z) (Qa (Jd Z Qy Qy Qf Z Z) (Qa (ps_len Z (by constructor) Z) ?_)))))))))
 refine GoO.lenLe (n := s.names.length) (x := .tmp 34) Z (by constructor) own_lenLe (fun ml8 => ?_)
 refine Qa (ps_eql Z Z Z) (Qm (Qd (Jf Z (fun h9 => ?_) (fun h9 => ?_))))
 replace H := ite_t h9 H
 refine Qi (Qc ?_)
 iterate 2 refine Qa (Qh Z Z) ?_
 refine Qm (Qd ?_)
 obtain rfl := Qg H
 exact Ja (ds := [.v (.int .i64 0), .v (.int .i64 11)]) Try.results47 (Qs (Qw Z) (Qs (Qw Z) (Qz))) (Qk _ _ _ _ _ Qp (Qk _ _ _ _ _ Qp (Qk _ _ _ _ _ Qp (Qk _ _ _ _ _ Qp (Ql _))))) ⟨βs_1, βs_2, βs_3, Z, Z⟩
 replace H := ite_f h9 H
 refine Ji (Qd (Qi (GoC.drawQH (.q 0 (.q 1 (.q 2 (.q 3 (.q 4 (.q 5 (.q 6 (.q 9 (.q 10 (.q 11 (.q 12 (.q 13 (.q 14 (.q 15 (.q 16 (.two 7 17 (.two 8 17 (.one 17 (.one 18 (.q 19 (.q 20 (.one 21 (.q 22 (.q 23 (.one 24 (.done))))))))) (.one 8 (.one 18 (.q 19 (.q 20 (.one 21 (.q 22 (.q 23 (.one 24 (.done)))))))))) (.one 7 (.one 8 (.one 18 (.q 19 (.q 20 (.one 21 (.q 22 (.q 23 (.one 24 (.done)))))))))))))))))))))))))) 21 [.one βs 90 8 (st1 (nth [.v (.int .i64 s.now.net.n), .v (.int .i64 s.now.net.s), .v (.int .i64 s.now.net.t), slD s.now.net.as, slD s.now.flow, .own βs_1 5 0 s.old.length, .own βs_2 1 0 s.names.length, .own βs_3 5 0 s.saved.length]))] follows (by kernel_rfl) (Qk _ _ _ _ _ Qp (Ql _)) ?_)))
 iterate 3 refine GoQ.qP Z Z (Qj Z Z) ?_
 refine GoQ.qP Z Z (ps_nilCheck Z Z) (GoQ.qP Z Z (Qr Z Z) (GoQ.qN Z (by kernel_rfl) (Jd Z Qy Qy Qf Z Z) ?_))
 iterate 2 refine GoQ.qP Z Z (Qj Z Z) ?_
 refine GoQ.qP Z Z (ps_nilCheck Z Z) (GoQ.qP Z Z (Qr Z Z) (GoQ.qN Z (by kernel_rfl) (Jd Z Qy Qy Qf Z Z) ?_))
 refine GoQ.qP Z Z (Qj Z Z) (GoQ.qP Z Z (ps_nilCheck Z Z) (GoQ.qP Z Z (Qr Z Z) (GoQ.qN Z (by kernel_rfl) (Jr Z Qy Qy Qf Z Z) ?_)))
 have c12 := ck_l H; replace H := ck_r H
 have c15 := ck_l H; replace H := ck_r H
 apply GoQ.fork4
 exact Z
 exact Z
 exact Z
 exact Z
 exact Qq
 exact Qq
 exact ef_buildSlice (row ([text] : List ByteArray)) Z (Jl _ _ _ _ _ _ _ _ ⟨Z, Z⟩ (Part.one _ Z Z) Z Z (Parts.nil _)) Z Z Z Z
 exact ef_buildSlice (row ([s.now] : List StoreState)) Z (Jl _ _ _ _ _ _ _ _ ⟨Z, Z⟩ (Part.ag _ _ Z) Z Z (Parts.nil _)) Z Z Z Z
 exact (Qk _ _ _ _ _ Qp (Ql _))
 exact (Qk _ _ _ _ _ Qp (Ql _))
 intro hQ
 rintro _ ⟨β16, rfl⟩
 apply GoQ.fork3
 exact Z
 exact Z
 exact Z
 exact Z
 exact Qq
 exact Qq
 exact ef_append Z Z Rem.p3 (Src.own Qy (by first | omega | (simp only [szl]; omega) | (simp only [szl]; done))) (cat_row (α := ByteArray) (by first|rfl|omega|(simp only[szl]<;>first|rfl|omega)) (by first|rfl|omega|(simp only[szl]<;>first|rfl|omega)) (fun _ _ _ _ => Z)) (by first | omega | (simp only [szl]; omega) | (simp only [szl]; done)) (app_le c12 Z) Z Z Z
 exact ef_buildSlice (row ([s.now] : List StoreState)) Z (Jl _ _ _ _ _ _ _ _ ⟨Z, Z⟩ (Part.ag _ _ Z) Z Z (Parts.nil _)) Z Z Z Z
 exact (Qk _ _ _ _ _ Rem.p3 (Qk _ _ _ _ _ Jk (Ql _)))
 exact (Qk _ _ _ _ _ Jk (Ql _))
 intro hQ
 rintro _ ⟨β21, rfl⟩
 refine GoQ.oneB Z Z Qq (ef_buildSlice (row ([s.now] : List StoreState)) Z (Jl _ _ _ _ _ _ _ _ ⟨Z, Z⟩ (Part.ag _ _ Z) Z Z (Parts.nil _)) Z Z Z Z) (Qk _ _ _ _ _ Rem.p2 (Ql _)) (fun β23 => ?_)
 refine GoQ.oneB Z Z Qq (ef_append Z Z Rem.p5 (Src.own Qy (by first | omega | (simp only [szl]; omega) | (simp only [szl]; done))) (cat_row (α := StoreState) (by first|rfl|omega|(simp only[szl]<;>first|rfl|omega)) (by first|rfl|omega|(simp only[szl]<;>first|rfl|omega)) (fun _ _ _ _ => Z)) (by first | omega | (simp only [szl]; omega) | (simp only [szl]; done)) (app_le c15 Z) Z Z Z) (Qk _ _ _ _ _ Rem.p5 (Qk _ _ _ _ _ Rem.p3 (Ql _))) (fun β24 => ?_)
 refine GoQ.qP Z Z (ps_nilCheck Z Z) (GoQ.qP Z Z (Qr Z Z) (GoQ.last1 Z Qq (ef_store Z Z Z At.p4 upd_st1 Qf Z) (Qk _ _ _ _ _ Rem.p4 (Ql _)) (Qx Z (ps_nilCheck Z Z) (Qx Z (Qr Z Z) (GoP.one1 Z Qq (ef_store Z Z Z At.p4 upd_st1 Qf Z) (Qk _ _ _ _ _ Rem.p4 (Ql _)) ?_)))))
 exact GoP.done (hQ β21 β23 β24)
 intro hQ
 rintro _ ⟨β22, rfl⟩
 refine GoQ.oneB Z Z Qq (ef_append Z Z Rem.p4 (Src.own Js (by first | omega | (simp only [szl]; omega) | (simp only [szl]; done))) (cat_row (α := ByteArray) (by first|rfl|omega|(simp only[szl]<;>first|rfl|omega)) (by first|rfl|omega|(simp only[szl]<;>first|rfl|omega)) (fun _ _ _ _ => Z)) (by first | omega | (simp only [szl]; omega) | (simp only [szl]; done)) (app_le c12 Z) Z Z Z) (Qk _ _ _ _ _ Rem.p4 (Qk _ _ _ _ _ Rem.p2 (Ql _))) (fun β25 => ?_)
 refine GoQ.oneB Z Z Qq (ef_append Z Z Rem.p5 (Src.own Js (by first | omega | (simp only [szl]; omega) | (simp only [szl]; done))) (cat_row (α := StoreState) (by first|rfl|omega|(simp only[szl]<;>first|rfl|omega)) (by first|rfl|omega|(simp only[szl]<;>first|rfl|omega)) (fun _ _ _ _ => Z)) (by first | omega | (simp only [szl]; omega) | (simp only [szl]; done)) (app_le c15 Z) Z Z Z) (Qk _ _ _ _ _ Rem.p5 (Qk _ _ _ _ _ Rem.p3 (Ql _))) (fun β26 => ?_)
 refine GoQ.qP Z Z (ps_nilCheck Z Z) (GoQ.qP Z Z (Qr Z Z) (GoQ.last1 Z Qq (ef_store Z Z Z At.p4 upd_st1 Qf Z) (Qk _ _ _ _ _ Rem.p4 (Ql _)) (Qx Z (ps_nilCheck Z Z) (Qx Z (Qr Z Z) (GoP.one1 Z Qq (ef_store Z Z Z At.p4 upd_st1 Qf Z) (Qk _ _ _ _ _ Rem.p4 (Ql _)) ?_)))))
 refine GoP.done (GoK.le ?_ (hQ β25 β22 β26))
 refine Le.ofDW ?_ (Qn _ _ _ _ _ Qp (Qu _) (Qn _ _ _ _ _ Jk (Qu _) (Qn _ _ _ _ _ Qp (Qu _) (Qn _ _ _ _ _ Qp (Qu _) (Qn _ _ _ _ _ Qp (Qu _) (Qn _ _ _ _ _ Qp (Qu _) (Jg _)))))))
 repeat (first | exact EnvLeW.nil | refine EnvLeW.cons rfl ?_ | refine EnvLeW.skip rfl ?_)
 intro β21 β23 β24
 exact (hQ β16 β21 β23 β24)
 intro hQ
 rintro _ ⟨β17, rfl⟩
 refine GoQ.oneB Z Z Qq (ef_buildSlice (row ([text] : List ByteArray)) Z (Jl _ _ _ _ _ _ _ _ ⟨Z, Z⟩ (Part.one _ Z Z) Z Z (Parts.nil _)) Z Z Z Z) (Qk _ _ _ _ _ Jk (Ql _)) (fun β27 => ?_)
 refine GoQ.oneB Z Z Qq (ef_append Z Z Rem.p4 (Src.own Qy (by first | omega | (simp only [szl]; omega) | (simp only [szl]; done))) (cat_row (α := ByteArray) (by first|rfl|omega|(simp only[szl]<;>first|rfl|omega)) (by first|rfl|omega|(simp only[szl]<;>first|rfl|omega)) (fun _ _ _ _ => Z)) (by first | omega | (simp only [szl]; omega) | (simp only [szl]; done)) (app_le c12 Z) Z Z Z) (Qk _ _ _ _ _ Rem.p4 (Qk _ _ _ _ _ Rem.p2 (Ql _))) (fun β28 => ?_)
 refine GoQ.oneB Z Z Qq (ef_append Z Z Rem.p5 (Src.own At.p2 (by first | omega | (simp only [szl]; omega) | (simp only [szl]; done))) (cat_row (α := StoreState) (by first|rfl|omega|(simp only[szl]<;>first|rfl|omega)) (by first|rfl|omega|(simp only[szl]<;>first|rfl|omega)) (fun _ _ _ _ => Z)) (by first | omega | (simp only [szl]; omega) | (simp only [szl]; done)) (app_le c15 Z) Z Z Z) (Qk _ _ _ _ _ Rem.p5 (Qk _ _ _ _ _ Rem.p3 (Ql _))) (fun β29 => ?_)
 refine GoQ.qP Z Z (ps_nilCheck Z Z) (GoQ.qP Z Z (Qr Z Z) (GoQ.last1 Z Qq (ef_store Z Z Z At.p4 upd_st1 Qf Z) (Qk _ _ _ _ _ Rem.p4 (Ql _)) (Qx Z (ps_nilCheck Z Z) (Qx Z (Qr Z Z) (GoP.one1 Z Qq (ef_store Z Z Z At.p4 upd_st1 Qf Z) (Qk _ _ _ _ _ Rem.p4 (Ql _)) ?_)))))
 refine GoP.done (GoK.le ?_ (hQ β27 β28 β17 β29))
 refine Le.ofDW ?_ (Qn _ _ _ _ _ Qp (Qu _) (Qn _ _ _ _ _ Rem.p2 (Qu _) (Qn _ _ _ _ _ Qp (Qu _) (Qn _ _ _ _ _ Qp (Qu _) (Qn _ _ _ _ _ Qp (Qu _) (Qn _ _ _ _ _ Qp (Qu _) (Jg _)))))))
 repeat (first | exact EnvLeW.nil | refine EnvLeW.cons rfl ?_ | refine EnvLeW.skip rfl ?_)
 intro β16 β21 β23 β24
 refine Qd (Qi (Qc ?_))
 iterate 2 refine Qa (Qh Z Z) ?_
 refine Qm (Qd (GoC.le (Le.reH At.p4 (Jh (g' := nth [.v (.int .i64 s.now.net.n), .v (.int .i64 s.now.net.s), .v (.int .i64 s.now.net.t), slD s.now.net.as, slD s.now.flow, .own βs_1 5 0 s.old.length, .own β21 1 0 ((s.names ++ ([text] : List ByteArray)).length), .own β24 5 0 ((s.saved ++ ([s.now] : List StoreState)).length)]) ⟨⟨⟨⟨⟨⟨⟨⟨Qq, Qb _⟩, Qb _⟩, Qb _⟩, Qb _⟩, Qb _⟩, Qb _⟩, Jq (by first|rfl|omega|(simp only [row_len, gridC_len, rowO_len, List.length_append, List.length_cons, List.length_nil] <;>first|rfl|omega))⟩, Jq (by first|rfl|omega|(simp only [row_len, gridC_len, rowO_len, List.length_append, List.length_cons, List.length_nil] <;>first|rfl|omega))⟩)) ?_))
 obtain rfl := Qg H
 exact Ja (ds := [.v (.int .i64 0), .v (.int .i64 0)]) Try.results47 (Qs (Qw Z) (Qs (Qw Z) (Qz))) (Qk _ _ _ _ _ Rem.p4 (Qk _ _ _ _ _ Rem.p4 (Qk _ _ _ _ _ Rem.p2 (Qk _ _ _ _ _ Qp (Ql _))))) ⟨βs_1, β21, β24, Z, Z⟩
theorem store_load_spec (s : Store) (text : ByteArray) (βs : BK) (βs_1 : BK) (βs_2 : BK) (βs_3 : BK) {out : Int × Int × Store} (H : store_load_F s text = some out) : Does Try.prog 48 [.ptr βs 8 0 0, .v (.string text)] [.one βs 90 8 (st1 (nth [.v (.int .i64 s.now.net.n), .v (.int .i64 s.now.net.s), .v (.int .i64 s.now.net.t), slD s.now.net.as, slD s.now.flow, .own βs_1 5 0 s.old.length, .own βs_2 1 0 s.names.length, .own βs_3 5 0 s.saved.length])), .one βs_1 86 5 (row s.old), .one βs_2 9 1 (row s.names), .one βs_3 86 5 (row s.saved)] (store_load_P out βs βs_1 βs_2 βs_3) := by
 unfold store_load_F at H
 refine Does.intro Try.func48 Z Try.ntmps48 Z fun w0 I0 tb0 => ?_
 refine Qi (Qc ?_)
 iterate 2 refine Qa (Qh Z Z) ?_
 refine Qm (Qd (Qi (Qi (Qc (Qa (Qj Z Z) ?_)))))
 have hb := bind_l H; clear H
 obtain ⟨r1, e2, H⟩ := hb
 refine GoO.effC (ef_call Z (Ql _) (Ql _) (store_name_spec text e2) (Qt (Qo _ _) (Jj)) Z (store_name_I (r1))) (fun rr HH hp => ?_)
 obtain ⟨rfl, rfl⟩ := hp
 refine Qa (Qh Z Z) (Qm (Qd (Qi (Qc (Qa (Qj Z Z) (Qa (ps_neq Z Z Z) (Qm (Qd (Jf Z (fun h3 => ?_) (fun h3 => ?_))))))))))
 replace H := ite_t h3 H
 refine Qi (Qc (Qa (Qj Z Z) ?_))
 iterate 2 refine Qa (Qh Z Z) ?_
 refine Qm (Qd ?_)
 obtain rfl := Qg H
 exact Ja (ds := [.v (.int .i64 0), .v (.int .i64 r1)]) Try.results48 (Qs (Qw Z) (Qs (Qw Z) (Qz))) (Qk _ _ _ _ _ Qp (Qk _ _ _ _ _ Qp (Qk _ _ _ _ _ Qp (Qk _ _ _ _ _ Qp (Ql _))))) ⟨βs_1, βs_2, βs_3, Z, Z⟩
 replace H := ite_f h3 H
 refine Ji (Qd (Qi (Qc (Qa (Qj Z Z) (Qa (ps_nilCheck Z Z) (Qa (Qr Z Z) (Qa (Jd Z Qy Qy Qf Z Z) (Qa (Qj Z Z) ?_))))))))
 have hb := bind_l H; clear H
 obtain ⟨r4, e5, H⟩ := hb
 refine GoO.effC (ef_call Z (Ql _) (Qk _ _ _ _ _ Rem.p2 (Ql _)) (slices_Index_string_spec s.names text e5) (Qt (Lend.all' Qy (by first|rfl|omega|(simp only[szl]<;>first|rfl|omega)) Z) (Qt (Qo _ _) (Jj))) Z (slices_Index_string_I (r4))) (fun rr HH hp => ?_)
 obtain ⟨rfl, rfl⟩ := hp
 refine Qa (Qh Z Z) (Qm (Qd (Qi (Qi (Qc (Qa (Qj Z Z) (Qa (ps_lss Z Z Z) (Qm (Qd (Jf Z (fun h6 => ?_) (fun h6 => ?_)))))))))))
 replace H := ite_t h6 H
 refine Qi (Qc ?_)
 iterate 2 refine Qa (Qh Z Z) ?_
 refine Qm (Qd ?_)
 obtain rfl := Qg H
 exact Ja (ds := [.v (.int .i64 0), .v (.int .i64 5)]) Try.results48 (Qs (Qw Z) (Qs (Qw Z) (Qz))) (Qk _ _ _ _ _ Qp (Qk _ _ _ _ _ Qp (Qk _ _ _ _ _ Qp (Qk _ _ _ _ _ Qp (Ql _))))) ⟨βs_1, βs_2, βs_3, Z, Z⟩
 replace H := ite_f h6 H
 refine Ji (Qd (Qi (GoC.drawQ (.q 0 (.q 1 (.q 2 (.q 3 (.q 4 (.q 5 (.q 6 (.q 7 (.q 8 (.q 9 (.q 10 (.q 11 (.q 12 (.q 13 (.q 14 (.q 15 (.q 16 (.one 17 (.q 18 (.q 19 (.q 20 (.q 21 (.done))))))))))))))))))))))) 17 follows (by kernel_rfl) ?_)))
 iterate 2 refine GoQ.qP Z Z (Qj Z Z) ?_
 refine GoQ.qP Z Z (ps_nilCheck Z Z) (GoQ.qP Z Z (Qr Z Z) (GoQ.qN Z (by kernel_rfl) (Jd Z Qy Qy Qf Z Z) ?_))
 refine GoQ.qP Z Z (Qj Z Z) ?_
 have c7 := ck_l H; replace H := ck_r H
 refine GoQ.qP Z Z (ps_indexAddr0 Z Z c7 Z) (GoQ.qP Z Z (Qr Z Z) (GoQ.qN Z (by kernel_rfl) (Jr Z At.p3 At.p3 (idx_lt c7) Z Z) ?_))
 refine GoQ.qP Z Z (Qj Z Z) (GoQ.qP Z Z (ps_nilCheck Z Z) (GoQ.qP Z Z (Qr Z Z) (GoQ.qN Z (by kernel_rfl) (Jd Z Qy Qy Qf Z Z) ?_)))
 refine GoQ.qP Z Z (Qj Z Z) (GoQ.qP Z Z (ps_indexAddr0 Z Z c7 Z) (GoQ.qP Z Z (Qr Z Z) (GoQ.qN Z (by kernel_rfl) (Jd Z At.p3 At.p3 (idx_lt c7) Z Z) ?_)))
 have hb := bind_l H; clear H
 obtain ⟨⟨r8, r9, x10⟩, e11, H⟩ := hb
 refine GoQ.lastCG Z Qq (ef_callK Z (Qk _ _ _ _ _ Qp (Qk _ _ _ _ _ Qp (Qk _ _ _ _ _ Qp (Qk _ _ _ _ _ Qp (Ql _))))) (Ql _) (store_set_spec s ((s.saved.getD r4.toNat El.d).net) ((s.saved.getD r4.toNat El.d).flow) 0 βs βs_1 βs_2 βs_3 e11) (Qt (Qo _ _) (Qt (Lend.agA ⟨⟨⟨⟨Qq, Qo _ _⟩, Qo _ _⟩, Qo _ _⟩, Qo _ _⟩) (Qt (Qo _ _) (Qt (Qo _ _) (Jj))))) Z nil_fps) (Qk _ _ _ _ _ Qp (Qk _ _ _ _ _ Qp (Qk _ _ _ _ _ Qp (Qk _ _ _ _ _ Qp (Ql _))))) (fun rr HH hp => ?_)
 obtain ⟨β12, β13, β14, rfl, rfl⟩ := hp
 iterate 2 refine Qx Z (Jb Z Z Z) ?_
 iterate 2 refine Qx Z (Qh Z Z) ?_
 refine GoP.done (Qd ?_)
 obtain rfl := Qg H
 exact Ja (ds := [.v (.int .i64 r8), .v (.int .i64 r9)]) Try.results48 (Qs (Qw Z) (Qs (Qw Z) (Qz))) (Qk _ _ _ _ _ Qp (Qk _ _ _ _ _ Qp (Qk _ _ _ _ _ Qp (Qk _ _ _ _ _ Qp (Ql _))))) ⟨β12, β13, β14, Z, Z⟩
theorem store_Do_spec (s : Store) (d_ : Deed) (βs : BK) (βs_1 : BK) (βs_2 : BK) (βs_3 : BK) {out : Int × Int × Store} (H : store_Do_F s d_ = some out) : Does Try.prog 29 [.ptr βs 8 0 0, .ag 5 (nth [.v (.int .i64 d_.kind), .v (.int .i64 d_.a), .v (.int .i64 d_.b), .v (.int .i64 d_.n), .v (.string d_.name)])] [.one βs 90 8 (st1 (nth [.v (.int .i64 s.now.net.n), .v (.int .i64 s.now.net.s), .v (.int .i64 s.now.net.t), slD s.now.net.as, slD s.now.flow, .own βs_1 5 0 s.old.length, .own βs_2 1 0 s.names.length, .own βs_3 5 0 s.saved.length])), .one βs_1 86 5 (row s.old), .one βs_2 9 1 (row s.names), .one βs_3 86 5 (row s.saved)] (store_Do_P out βs βs_1 βs_2 βs_3) := by
 unfold store_Do_F at H
 refine Does.intro Try.func29 Z Try.ntmps29 Z fun w0 I0 tb0 => ?_
 refine Qi (Qc (Jm (ef_boxAg Z Z) (fun β1 => ?_)))
 iterate 2 refine Qa (Qh Z Z) ?_
 refine Qm (Qd (Qi (GoC.drawA (.q 0 (.q 1 (.q 2 (.q 3 (.q 4 (.q 5 (.q 6 (.q 7 (.q 8 (.q 9 (.one 10 (.one 11 (.q 12 (.done)))))))))))))) follows (by kernel_rfl) ?_)))
 refine Qx Z (Qj Z Z) (Qx Z (ps_nilCheck Z Z) ?_)
 iterate 2 refine Qx Z (Qr Z Z) ?_
 refine Qx Z (Jr Z Js Js Qf Z Z) (Qx Z (Qj Z Z) (Qx Z (ps_nilCheck Z Z) ?_))
 iterate 2 refine Qx Z (Qr Z Z) ?_
 refine Qx Z (Jd Z Js Js Qf Z Z) (GoP.oneB Z Qq (ef_alloc Z) (Qk _ _ _ _ _ Qp (Qk _ _ _ _ _ Qp (Qk _ _ _ _ _ Qp (Qk _ _ _ _ _ Qp (Qk _ _ _ _ _ Qp (Ql _)))))) (fun β2 => ?_))
 refine GoP.one1 Z Qq (ef_storeAg Z Z Qy upd_whole Qf Z) (Qk _ _ _ _ _ Qp (Qk _ _ _ _ _ Qp (Qk _ _ _ _ _ Qp (Qk _ _ _ _ _ Qp (Qk _ _ _ _ _ Qp (Qk _ _ _ _ _ Qp (Ql _))))))) (Qx Z (Qh Z Z) (GoP.done (Qd (Qi (Qi (Qc (Qa (Qr Z Z) (Qa (Jd Z Js Js Qf Z Z) ?_))))))))
 refine Qm (Qd (GoC.block (Qi (Qc (Qa (ps_eql Z Z Z) (Qa (Qh Z Z) (Qm (Qd (Jf Z (fun h3 => ?_) (fun h3 => ?_))))))))))
 replace H := ite_t h3 H
 refine Qi (Qc (Qa (Qr Z Z) (Qa (Jd Z Js Js Qf Z Z) (Qa (Qr Z Z) (Qa (Jd Z Js Js Qf Z Z) (Qa (Qr Z Z) ?_))))))
 refine Qa (Jd Z Js Js Qf Z Z) (Qa (ps_build (Jl _ _ _ _ _ _ _ _ FdP.of (Part.one _ Z Z) Z Z (Jl _ _ _ _ _ _ _ _ FdP.of (Part.one _ Z Z) Z Z (Jl _ _ _ _ _ _ _ _ FdP.of (Part.one _ Z Z) Z Z (Parts.nil _)))) Z) (Jm (ef_alloc Z) (fun β4 => ?_)))
 refine GoO.eff1 (ef_storeAg Z Z Qy upd_whole Qf Z) (Qm (Qd (Qi (GoC.drawP (.q 0 (.q 1 (.q 2 (.one 3 (.one 4 (.q 5 (.q 6 (.q 7 (.q 8 (.done)))))))))) [(8, _, _, _)] follows (by kernel_rfl) (Qk _ _ _ _ _ Qp (Ql _)) ?_))))
 refine Qx Z (Qj Z Z) ?_
 iterate 2 refine Qx Z (Jr Z Qy Qy Qf Z Z) ?_
 have hb := bind_l H; clear H
 obtain ⟨r5, e6, H⟩ := hb
 refine GoP.oneC Z Qq (ef_call Z (Ql _) (Ql _) (graph_CheckNet_spec (⟨d_.n, d_.a, d_.b, []⟩ : Net) e6) (Qt (Lend.agA ⟨⟨⟨⟨Qq, Qo _ _⟩, Qo _ _⟩, Qo _ _⟩, Lend.nil⟩) (Jj)) Z (graph_CheckNet_I (r5))) (Qk _ _ _ _ _ Qp (Ql _)) (fun rr HH hp => ?_)
 obtain ⟨rfl, rfl⟩ := hp
 have hb := bind_l H; clear H
 obtain ⟨⟨r7, r8, x9⟩, e10, H⟩ := hb
 refine GoP.oneCF Z Z (Qk _ _ _ _ _ Rem.p3 (Qk _ _ _ _ _ Rem.p3 (Qk _ _ _ _ _ Rem.p3 (Qk _ _ _ _ _ Rem.p3 (Ql _))))) (Ql _) (store_set_spec s (⟨d_.n, d_.a, d_.b, []⟩ : Net) [] r5 βs βs_1 βs_2 βs_3 e10) (Qt (Qo _ _) (Qt (Lend.agA ⟨⟨⟨⟨Qq, Qo _ _⟩, Qo _ _⟩, Qo _ _⟩, Lend.nil⟩) (Qt (Lend.nil) (Qt (Qo _ _) (Jj))))) Z nil_fps (Qk _ _ _ _ _ Rem.p3 (Qk _ _ _ _ _ Rem.p3 (Qk _ _ _ _ _ Rem.p3 (Qk _ _ _ _ _ Rem.p3 (Qk _ _ _ _ _ Qp (Ql _)))))) (fun rr HH hp => ?_)
 obtain ⟨β11, β12, β13, rfl, rfl⟩ := hp
 iterate 2 refine GoV.qN Z (pv_extract Z Z Z) ?_
 iterate 2 refine GoV.qN Z (pv_assign Z Z) ?_
 refine GoV.done (Qd ?_)
 obtain rfl := Qg H
 exact Ja (ds := [.v (.int .i64 r7), .v (.int .i64 r8)]) Try.results29 (Qs (Qw Z) (Qs (Qw Z) (Qz))) (Qk _ _ _ _ _ Qp (Qk _ _ _ _ _ Qp (Qk _ _ _ _ _ Qp (Qk _ _ _ _ _ Qp (Ql _))))) ⟨β11, β12, β13, Z, Z⟩
 replace H := ite_f h3 H
 refine Qi (Qc (Qa (ps_eql Z Z Z) (Qa (Qh Z Z) (Qm (Qd (Jf Z (fun h14 => ?_) (fun h14 => ?_)))))))
 replace H := ite_t h14 H
 refine Qi (Qc (Qa (Jr Z Qy Qy Qf Z Z) (Qa (Qj Z Z) (Qa (Qr Z Z) (Qa (Jd Z Js Js Qf Z Z) (Qa (Qr Z Z) ?_))))))
 refine Qa (Jd Z Js Js Qf Z Z) (Qa (Qr Z Z) (Qa (Jd Z Js Js Qf Z Z) (Qa (ps_build (Jl _ _ _ _ _ _ _ _ FdP.of (Part.one _ Z Z) Z Z (Jl _ _ _ _ _ _ _ _ FdP.of (Part.one _ Z Z) Z Z (Jl _ _ _ _ _ _ _ _ FdP.of (Part.one _ Z Z) Z Z (Parts.nil _)))) Z) ?_)))
 have hb := bind_l H; clear H
 obtain ⟨⟨r15, r16, r17, r18⟩, e19, H⟩ := hb
 refine GoO.callF Z (Ql _) (Ql _) (repair_Add_specF s.now.net s.now.flow (⟨d_.a, d_.b, d_.n⟩ : Arc) e19) (Qt (Lend.agA ⟨⟨⟨⟨Qq, Qo _ _⟩, Qo _ _⟩, Qo _ _⟩, Qo _ _⟩) (Qt (Qo _ _) (Qt (Lend.agA ⟨⟨⟨Qq, Qo _ _⟩, Qo _ _⟩, Qo _ _⟩) (Jj)))) Z nil_fps (fun rr HH hp => ?_)
 obtain ⟨rfl, rfl⟩ := hp
 refine Qa (Qj Z Z) ?_
 iterate 4 refine Qa (Jb Z Z Z) ?_
 refine Jm (ef_alloc Z) (fun β20 => ?_)
 refine GoO.eff1 (ef_storeAg Z Z Qy upd_whole Qf Z) ?_
 iterate 3 refine Qa (Qh Z Z) ?_
 refine Qm (Qd (Qi (Qc (Qa (Qj Z Z) (Qa (Jr Z Qy Qy Qf Z Z) ?_)))))
 iterate 2 refine Qa (Qj Z Z) ?_
 have hb := bind_l H; clear H
 obtain ⟨⟨r21, r22, x23⟩, e24, H⟩ := hb
 refine GoO.callF Z (Qk _ _ _ _ _ Rem.p3 (Qk _ _ _ _ _ Rem.p3 (Qk _ _ _ _ _ Rem.p3 (Qk _ _ _ _ _ Rem.p3 (Ql _))))) (Ql _) (store_set_spec s r15 r16 r18 βs βs_1 βs_2 βs_3 e24) (Qt (Qo _ _) (Qt (Lend.agA ⟨⟨⟨⟨Qq, Qo _ _⟩, Qo _ _⟩, Qo _ _⟩, Qo _ _⟩) (Qt (Qo _ _) (Qt (Qo _ _) (Jj))))) Z nil_fps (fun rr HH hp => ?_)
 obtain ⟨β25, β26, β27, rfl, rfl⟩ := hp
 iterate 2 refine Qa (Jb Z Z Z) ?_
 iterate 2 refine Qa (Qh Z Z) ?_
 refine Qm (Qd ?_)
 obtain rfl := Qg H
 exact Ja (ds := [.v (.int .i64 r21), .v (.int .i64 r22)]) Try.results29 (Qs (Qw Z) (Qs (Qw Z) (Qz))) (Qk _ _ _ _ _ Qp (Qk _ _ _ _ _ Qp (Qk _ _ _ _ _ Qp (Qk _ _ _ _ _ Qp (Ql _))))) ⟨β25, β26, β27, Z, Z⟩
 replace H := ite_f h14 H
 refine Qi (Qc (Qa (ps_eql Z Z Z) (Qa (Qh Z Z) (Qm (Qd (Jf Z (fun h28 => ?_) (fun h28 => ?_)))))))
 replace H := ite_t h28 H
 refine Qi (Qc (Qa (Jr Z Qy Qy Qf Z Z) (Qa (Qj Z Z) (Qa (Qr Z Z) (Qa (Jd Z Js Js Qf Z Z) (Qa (Qr Z Z) ?_))))))
 refine Qa (Jd Z Js Js Qf Z Z) ?_
 have hb := bind_l H; clear H
 obtain ⟨⟨r29, r30, r31, r32⟩, e33, H⟩ := hb
 refine GoO.callF Z (Ql _) (Ql _) (repair_Cap_specF s.now.net s.now.flow d_.a d_.n e33) (Qt (Lend.agA ⟨⟨⟨⟨Qq, Qo _ _⟩, Qo _ _⟩, Qo _ _⟩, Qo _ _⟩) (Qt (Qo _ _) (Qt (Qo _ _) (Qt (Qo _ _) (Jj))))) Z nil_fps (fun rr HH hp => ?_)
 obtain ⟨rfl, rfl⟩ := hp
 refine Qa (Qj Z Z) ?_
 iterate 4 refine Qa (Jb Z Z Z) ?_
 refine Jm (ef_alloc Z) (fun β34 => ?_)
 refine GoO.eff1 (ef_storeAg Z Z Qy upd_whole Qf Z) ?_
 iterate 3 refine Qa (Qh Z Z) ?_
 refine Qm (Qd (Qi (Qc (Qa (Qj Z Z) (Qa (Jr Z Qy Qy Qf Z Z) ?_)))))
 iterate 2 refine Qa (Qj Z Z) ?_
 have hb := bind_l H; clear H
 obtain ⟨⟨r35, r36, x37⟩, e38, H⟩ := hb
 refine GoO.callF Z (Qk _ _ _ _ _ Rem.p3 (Qk _ _ _ _ _ Rem.p3 (Qk _ _ _ _ _ Rem.p3 (Qk _ _ _ _ _ Rem.p3 (Ql _))))) (Ql _) (store_set_spec s r29 r30 r32 βs βs_1 βs_2 βs_3 e38) (Qt (Qo _ _) (Qt (Lend.agA ⟨⟨⟨⟨Qq, Qo _ _⟩, Qo _ _⟩, Qo _ _⟩, Qo _ _⟩) (Qt (Qo _ _) (Qt (Qo _ _) (Jj))))) Z nil_fps (fun rr HH hp => ?_)
 obtain ⟨β39, β40, β41, rfl, rfl⟩ := hp
 iterate 2 refine Qa (Jb Z Z Z) ?_
 iterate 2 refine Qa (Qh Z Z) ?_
 refine Qm (Qd ?_)
 obtain rfl := Qg H
 exact Ja (ds := [.v (.int .i64 r35), .v (.int .i64 r36)]) Try.results29 (Qs (Qw Z) (Qs (Qw Z) (Qz))) (Qk _ _ _ _ _ Qp (Qk _ _ _ _ _ Qp (Qk _ _ _ _ _ Qp (Qk _ _ _ _ _ Qp (Ql _))))) ⟨β39, β40, β41, Z, Z⟩
 replace H := ite_f h28 H
 refine Qi (Qc (Qa (ps_eql Z Z Z) (Qa (Qh Z Z) (Qm (Qd (Jf Z (fun h42 => ?_) (fun h42 => ?_)))))))
 replace H := ite_t h42 H
 refine Qi (Qc (Qa (Jr Z Qy Qy Qf Z Z) (Qa (Qj Z Z) (Qa (Qr Z Z) (Qa (Jd Z Js Js Qf Z Z) ?_)))))
 have hb := bind_l H; clear H
 obtain ⟨⟨r43, r44, r45, r46⟩, e47, H⟩ := hb
 refine GoO.callF Z (Ql _) (Ql _) (repair_Drop_specF s.now.net s.now.flow d_.a e47) (Qt (Lend.agA ⟨⟨⟨⟨Qq, Qo _ _⟩, Qo _ _⟩, Qo _ _⟩, Qo _ _⟩) (Qt (Qo _ _) (Qt (Qo _ _) (Jj)))) Z nil_fps (fun rr HH hp => ?_)
 obtain ⟨rfl, rfl⟩ := hp
 refine Qa (Qj Z Z) ?_
 iterate 4 refine Qa (Jb Z Z Z) ?_
 refine Jm (ef_alloc Z) (fun β48 => ?_)
 refine GoO.eff1 (ef_storeAg Z Z Qy upd_whole Qf Z) ?_
 iterate 3 refine Qa (Qh Z Z) ?_
 refine Qm (Qd (Qi (Qc (Qa (Qj Z Z) (Qa (Jr Z Qy Qy Qf Z Z) ?_)))))
 iterate 2 refine Qa (Qj Z Z) ?_
 have hb := bind_l H; clear H
 obtain ⟨⟨r49, r50, x51⟩, e52, H⟩ := hb
 refine GoO.callF Z (Qk _ _ _ _ _ Rem.p3 (Qk _ _ _ _ _ Rem.p3 (Qk _ _ _ _ _ Rem.p3 (Qk _ _ _ _ _ Rem.p3 (Ql _))))) (Ql _) (store_set_spec s r43 r44 r46 βs βs_1 βs_2 βs_3 e52) (Qt (Qo _ _) (Qt (Lend.agA ⟨⟨⟨⟨Qq, Qo _ _⟩, Qo _ _⟩, Qo _ _⟩, Qo _ _⟩) (Qt (Qo _ _) (Qt (Qo _ _) (Jj))))) Z nil_fps (fun rr HH hp => ?_)
 obtain ⟨β53, β54, β55, rfl, rfl⟩ := hp
 iterate 2 refine Qa (Jb Z Z Z) ?_
 iterate 2 refine Qa (Qh Z Z) ?_
 refine Qm (Qd ?_)
 obtain rfl := Qg H
 exact Ja (ds := [.v (.int .i64 r49), .v (.int .i64 r50)]) Try.results29 (Qs (Qw Z) (Qs (Qw Z) (Qz))) (Qk _ _ _ _ _ Qp (Qk _ _ _ _ _ Qp (Qk _ _ _ _ _ Qp (Qk _ _ _ _ _ Qp (Ql _))))) ⟨β53, β54, β55, Z, Z⟩
 replace H := ite_f h42 H
 refine Qi (Qc (Qa (ps_eql Z Z Z) (Qa (Qh Z Z) (Qm (Qd (Jf Z (fun h56 => ?_) (fun h56 => ?_)))))))
 replace H := ite_t h56 H
 refine Qi (Qc (Qa (Jr Z Qy Qy Qf Z Z) (Qa (Qj Z Z) (Qa (Qr Z Z) (Qa (Jd Z Js Js Qf Z Z) (Qa (Qr Z Z) ?_))))))
 refine Qa (Jd Z Js Js Qf Z Z) ?_
 have hb := bind_l H; clear H
 obtain ⟨⟨r57, r58, r59, r60⟩, e61, H⟩ := hb
 refine GoO.callF Z (Ql _) (Ql _) (repair_Ends_specF s.now.net s.now.flow d_.a d_.b e61) (Qt (Lend.agA ⟨⟨⟨⟨Qq, Qo _ _⟩, Qo _ _⟩, Qo _ _⟩, Qo _ _⟩) (Qt (Qo _ _) (Qt (Qo _ _) (Qt (Qo _ _) (Jj))))) Z nil_fps (fun rr HH hp => ?_)
 obtain ⟨rfl, rfl⟩ := hp
 refine Qa (Qj Z Z) ?_
 iterate 4 refine Qa (Jb Z Z Z) ?_
 refine Jm (ef_alloc Z) (fun β62 => ?_)
 refine GoO.eff1 (ef_storeAg Z Z Qy upd_whole Qf Z) ?_
 iterate 3 refine Qa (Qh Z Z) ?_
 refine Qm (Qd (Qi (Qc (Qa (Qj Z Z) (Qa (Jr Z Qy Qy Qf Z Z) ?_)))))
 iterate 2 refine Qa (Qj Z Z) ?_
 have hb := bind_l H; clear H
 obtain ⟨⟨r63, r64, x65⟩, e66, H⟩ := hb
 refine GoO.callF Z (Qk _ _ _ _ _ Rem.p3 (Qk _ _ _ _ _ Rem.p3 (Qk _ _ _ _ _ Rem.p3 (Qk _ _ _ _ _ Rem.p3 (Ql _))))) (Ql _) (store_set_spec s r57 r58 r60 βs βs_1 βs_2 βs_3 e66) (Qt (Qo _ _) (Qt (Lend.agA ⟨⟨⟨⟨Qq, Qo _ _⟩, Qo _ _⟩, Qo _ _⟩, Qo _ _⟩) (Qt (Qo _ _) (Qt (Qo _ _) (Jj))))) Z nil_fps (fun rr HH hp => ?_)
 obtain ⟨β67, β68, β69, rfl, rfl⟩ := hp
 iterate 2 refine Qa (Jb Z Z Z) ?_
 iterate 2 refine Qa (Qh Z Z) ?_
 refine Qm (Qd ?_)
 obtain rfl := Qg H
 exact Ja (ds := [.v (.int .i64 r63), .v (.int .i64 r64)]) Try.results29 (Qs (Qw Z) (Qs (Qw Z) (Qz))) (Qk _ _ _ _ _ Qp (Qk _ _ _ _ _ Qp (Qk _ _ _ _ _ Qp (Qk _ _ _ _ _ Qp (Ql _))))) ⟨β67, β68, β69, Z, Z⟩
 replace H := ite_f h56 H
 refine Qi (Qc (Qa (ps_eql Z Z Z) (Qa (Qh Z Z) (Qm (Qd (Jf Z (fun h70 => ?_) (fun h70 => ?_)))))))
 replace H := ite_t h70 H
 refine Qi (Qc (Qa (Qj Z Z) ?_))
 have hb := bind_l H; clear H
 obtain ⟨⟨r71, r72, x73⟩, e74, H⟩ := hb
 refine GoO.callF Z (Qk _ _ _ _ _ Rem.p2 (Qk _ _ _ _ _ Rem.p2 (Qk _ _ _ _ _ Rem.p2 (Qk _ _ _ _ _ Rem.p2 (Ql _))))) (Ql _) (store_undo_spec s βs βs_1 βs_2 βs_3 e74) (Qt (Qo _ _) (Jj)) Z nil_fps (fun rr HH hp => ?_)
 obtain ⟨β75, β76, β77, rfl, rfl⟩ := hp
 iterate 2 refine Qa (Jb Z Z Z) ?_
 iterate 2 refine Qa (Qh Z Z) ?_
 refine Qm (Qd ?_)
 obtain rfl := Qg H
 exact Ja (ds := [.v (.int .i64 r71), .v (.int .i64 r72)]) Try.results29 (Qs (Qw Z) (Qs (Qw Z) (Qz))) (Qk _ _ _ _ _ Qp (Qk _ _ _ _ _ Qp (Qk _ _ _ _ _ Qp (Qk _ _ _ _ _ Qp (Ql _))))) ⟨β75, β76, β77, Z, Z⟩
 replace H := ite_f h70 H
 refine Qi (Qc (Qa (ps_eql Z Z Z) (Qa (Qh Z Z) (Qm (Qd (Jf Z (fun h78 => ?_) (fun h78 => ?_)))))))
 replace H := ite_t h78 H
 refine Qi (Qc (Qa (Qj Z Z) (Qa (Qr Z Z) (Qa (Jd Z Js Js Qf Z Z) ?_))))
 have hb := bind_l H; clear H
 obtain ⟨⟨r79, r80, x81⟩, e82, H⟩ := hb
 refine GoO.callF Z (Qk _ _ _ _ _ Rem.p2 (Qk _ _ _ _ _ Rem.p2 (Qk _ _ _ _ _ Rem.p2 (Qk _ _ _ _ _ Rem.p2 (Ql _))))) (Ql _) (store_save_spec s d_.name βs βs_1 βs_2 βs_3 e82) (Qt (Qo _ _) (Qt (Qo _ _) (Jj))) Z nil_fps (fun rr HH hp => ?_)
 obtain ⟨β83, β84, β85, rfl, rfl⟩ := hp
 iterate 2 refine Qa (Jb Z Z Z) ?_
 iterate 2 refine Qa (Qh Z Z) ?_
 refine Qm (Qd ?_)
 obtain rfl := Qg H
 exact Ja (ds := [.v (.int .i64 r79), .v (.int .i64 r80)]) Try.results29 (Qs (Qw Z) (Qs (Qw Z) (Qz))) (Qk _ _ _ _ _ Qp (Qk _ _ _ _ _ Qp (Qk _ _ _ _ _ Qp (Qk _ _ _ _ _ Qp (Ql _))))) ⟨β83, β84, β85, Z, Z⟩
 replace H := ite_f h78 H
 refine Qi (Qc (Qa (ps_eql Z Z Z) (Qa (Qh Z Z) (Qm (Qd (Jf Z (fun h86 => ?_) (fun h86 => ?_)))))))
 replace H := ite_t h86 H
 refine Qi (Qc (Qa (Qj Z Z) (Qa (Qr Z Z) (Qa (Jd Z Js Js Qf Z Z) ?_))))
 have hb := bind_l H; clear H
 obtain ⟨⟨r87, r88, x89⟩, e90, H⟩ := hb
 refine GoO.callF Z (Qk _ _ _ _ _ Rem.p2 (Qk _ _ _ _ _ Rem.p2 (Qk _ _ _ _ _ Rem.p2 (Qk _ _ _ _ _ Rem.p2 (Ql _))))) (Ql _) (store_load_spec s d_.name βs βs_1 βs_2 βs_3 e90) (Qt (Qo _ _) (Qt (Qo _ _) (Jj))) Z nil_fps (fun rr HH hp => ?_)
 obtain ⟨β91, β92, β93, rfl, rfl⟩ := hp
 iterate 2 refine Qa (Jb Z Z Z) ?_
 iterate 2 refine Qa (Qh Z Z) ?_
 refine Qm (Qd ?_)
 obtain rfl := Qg H
 exact Ja (ds := [.v (.int .i64 r87), .v (.int .i64 r88)]) Try.results29 (Qs (Qw Z) (Qs (Qw Z) (Qz))) (Qk _ _ _ _ _ Qp (Qk _ _ _ _ _ Qp (Qk _ _ _ _ _ Qp (Qk _ _ _ _ _ Qp (Ql _))))) ⟨β91, β92, β93, Z, Z⟩
 replace H := ite_f h86 H
 refine Qi (Qc (Qa (ps_eql Z Z Z) (Qa (Qh Z Z) (Qm (Qd (Jf Z (fun h94 => ?_) (fun h94 => ?_)))))))
 replace H := ite_t h94 H
 refine Qi (Qc (Qa (Jr Z Qy Qy Qf Z Z) ?_))
 have hb := bind_l H; clear H
 obtain ⟨⟨r95, r96, r97⟩, e98, H⟩ := hb
 refine GoO.effC (ef_call Z (Ql _) (Ql _) (cut_Least_spec s.now.net e98) (Qt (Lend.agA ⟨⟨⟨⟨Qq, Qo _ _⟩, Qo _ _⟩, Qo _ _⟩, Qo _ _⟩) (Jj)) Z (cut_Least_I (r95, r96, r97))) (fun rr HH hp => ?_)
 obtain ⟨rfl, rfl⟩ := hp
 refine Qa (Qj Z Z) ?_
 iterate 3 refine Qa (Jb Z Z Z) ?_
 iterate 3 refine Qa (Qh Z Z) ?_
 refine Qm (Qd (Qi (Qc (Qa (Qj Z Z) ?_))))
 iterate 2 refine Qa (Qh Z Z) ?_
 refine Qm (Qd ?_)
 obtain rfl := Qg H
 exact Ja (ds := [.v (.int .i64 r96), .v (.int .i64 0)]) Try.results29 (Qs (Qw Z) (Qs (Qw Z) (Qz))) (Qk _ _ _ _ _ Rem.p2 (Qk _ _ _ _ _ Rem.p2 (Qk _ _ _ _ _ Rem.p2 (Qk _ _ _ _ _ Rem.p2 (Ql _))))) ⟨βs_1, βs_2, βs_3, Z, Z⟩
 replace H := ite_f h94 H
 refine Qi (Qc (Qa (ps_eql Z Z Z) (Qa (Qh Z Z) (Qm (Qd (Jf Z (fun h99 => ?_) (fun h99 => ?_)))))))
 replace H := ite_t h99 H
 refine Qi (Qc (Qa (Jr Z Qy Qy Qf Z Z) ?_))
 have hb := bind_l H; clear H
 obtain ⟨⟨r100, r101, r102⟩, e103, H⟩ := hb
 refine GoO.effC (ef_call Z (Ql _) (Ql _) (cut_Least_spec s.now.net e103) (Qt (Lend.agA ⟨⟨⟨⟨Qq, Qo _ _⟩, Qo _ _⟩, Qo _ _⟩, Qo _ _⟩) (Jj)) Z (cut_Least_I (r100, r101, r102))) (fun rr HH hp => ?_)
 obtain ⟨rfl, rfl⟩ := hp
 refine Qa (Qj Z Z) ?_
 iterate 3 refine Qa (Jb Z Z Z) ?_
 iterate 3 refine Qa (Qh Z Z) ?_
 refine Qm (Qd (Qi (Qc (Qa (Qj Z Z) (Qa (ps_convK Z Z) ?_)))))
 iterate 2 refine Qa (Qh Z Z) ?_
 refine Qm (Qd ?_)
 obtain rfl := Qg H
 exact Ja (ds := [.v (.int .i64 (IntKind.i64.wrap r100)), .v (.int .i64 0)]) Try.results29 (Qs (Qw Z) (Qs (Qw Z) (Qz))) (Qk _ _ _ _ _ Rem.p2 (Qk _ _ _ _ _ Rem.p2 (Qk _ _ _ _ _ Rem.p2 (Qk _ _ _ _ _ Rem.p2 (Ql _))))) ⟨βs_1, βs_2, βs_3, Z, Z⟩
 replace H := ite_f h99 H
 refine Qi (Qc (Qa (ps_eql Z Z Z) (Qa (Qh Z Z) (Qm (Qd (Jf Z (fun h104 => ?_) (fun h104 => ?_)))))))
 replace H := ite_t h104 H
 refine Qi (Qc (Qa (Qr Z Z) (Qa (Jd Z Qy Qy Qf Z Z) (Qa (ps_len Z (by constructor) Z) ?_))))
 refine GoO.lenLe (n := s.now.net.as.length) (x := .tmp 188) Z (by constructor) sl_lenLe (fun ml105 => ?_)
 iterate 2 refine Qa (Qh Z Z) ?_
 refine Qm (Qd ?_)
 obtain rfl := Qg H
 exact Ja (ds := [.v (.int .i64 ((s.now.net.as.length : Nat) : Int)), .v (.int .i64 0)]) Try.results29 (Qs (Qw Z) (Qs (Qw Z) (Qz))) (Qk _ _ _ _ _ Rem.p2 (Qk _ _ _ _ _ Rem.p2 (Qk _ _ _ _ _ Rem.p2 (Qk _ _ _ _ _ Rem.p2 (Ql _))))) ⟨βs_1, βs_2, βs_3, Z, Z⟩
 replace H := ite_f h104 H
 refine Ji (GoK.blk (Qd (Qi (Qc ?_))))
 iterate 2 refine Qa (Qh Z Z) ?_
 refine Qm (Qd ?_)
 obtain rfl := Qg H
 exact Ja (ds := [.v (.int .i64 0), .v (.int .i64 1)]) Try.results29 (Qs (Qw Z) (Qs (Qw Z) (Qz))) (Qk _ _ _ _ _ Rem.p2 (Qk _ _ _ _ _ Rem.p2 (Qk _ _ _ _ _ Rem.p2 (Qk _ _ _ _ _ Rem.p2 (Ql _))))) ⟨βs_1, βs_2, βs_3, Z, Z⟩
theorem store_Net_spec (s : Store) (βs : BK) (βs_1 : BK) (βs_2 : BK) (βs_3 : BK) {out : Net × Store} (H : store_Net_F s = some out) : Does Try.prog 30 [.ptr βs 8 0 0] [.one βs 90 8 (st1 (nth [.v (.int .i64 s.now.net.n), .v (.int .i64 s.now.net.s), .v (.int .i64 s.now.net.t), slD s.now.net.as, slD s.now.flow, .own βs_1 5 0 s.old.length, .own βs_2 1 0 s.names.length, .own βs_3 5 0 s.saved.length])), .one βs_1 86 5 (row s.old), .one βs_2 9 1 (row s.names), .one βs_3 86 5 (row s.saved)] (store_Net_P out βs βs_1 βs_2 βs_3) := by
 unfold store_Net_F at H
 refine Does.intro Try.func30 Z Try.ntmps30 Z fun w0 I0 tb0 => ?_
 refine Qi (Qc (Jm (ef_alloc Z) (fun β1 => ?_)))
 refine Qm (Qd (Qi (Qc (Qa (Qj Z Z) (Qa (ps_nilCheck Z Z) ?_)))))
 iterate 2 refine Qa (Qr Z Z) ?_
 refine Qa (Jr Z Js Js Qf Z Z) (Jm (ef_alloc Z) (fun β2 => ?_))
 refine GoO.eff1 (ef_storeAg Z Z Qy upd_whole Qf Z) (Qm (Qd (Qi (Qc (Qa (Qr Z Z) (Qa (Jd Z Qy Qy Qf Z Z) ?_))))))
 have hb := bind_l H; clear H
 obtain ⟨r3, e5, H⟩ := hb
 refine GoO.effC (ef_call Z (Ql _) (Ql _) (slices_Clone_Arc_spec s.now.net.as e5) (Qt (Qo _ _) (Jj)) Z (slices_Clone_Arc_I (r3))) (fun rr HH hp => ?_)
 obtain ⟨β4, rfl, rfl⟩ := hp
 refine Qa (Qr Z Z) (GoO.eff1 (ef_store Z Z Z Js upd_st1 Qf Z) (Qm (Qd (Qi (Qc (Qa (Jr Z Js Js Qf Z Z) (GoO.eff1 (ef_storeAg Z Z At.p2 upd_whole Qf Z) (Qm (Qd ?_)))))))))
 obtain rfl := Qg H
 exact Ja (ds := [.ag 4 (nth [.v (.int .i64 s.now.net.n), .v (.int .i64 s.now.net.s), .v (.int .i64 s.now.net.t), .own β4 3 0 r3.length])]) Try.results30 (Qs (ResD.le (ResD.cellAg Z At.p2 Qf Z) (by exact DLe.ag ⟨⟨⟨⟨Qq, Qb _⟩, Qb _⟩, Qb _⟩, Qb _⟩)) (Qz)) (Qk _ _ _ _ _ Qp (Qk _ _ _ _ _ Rem.p2 (Qk _ _ _ _ _ Rem.p2 (Qk _ _ _ _ _ Rem.p2 (Qk _ _ _ _ _ Rem.p2 (Ql _)))))) ⟨β4, βs_1, βs_2, βs_3, Z, Z⟩
end Go.Proofs.Ytkfmphlnpmemdaa.Sx.Y
