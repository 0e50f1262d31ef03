import Derived.Test.YtkfmphlnpmemdaaQTys
import Derived.Test.YtkfmphlnpmemdaaQDA
import Derived.Test.YtkfmphlnpmemdaaQCoN
set_option maxRecDepth 100000
set_option maxHeartbeats 4000000
set_option linter.unusedVariables false
set_option linter.unusedSimpArgs false
namespace Go.Proofs.Ytkfmphlnpmemdaa.Sx.Y
open Go Go.Proofs.Ytkfmphlnpmemdaa.Sx
theorem slices_Equal_int_I (out : Bool) : IndepP (slices_Equal_int_P out) := IndepP.of (by rintro _ _ ⟨rfl, rfl⟩; exact ⟨inferInstance, inferInstance⟩)
theorem slices_Equal_int_spec (s1_ : (List Int)) (s2_ : (List Int)) {out : Bool} (H : slices_Equal_int_F s1_ s2_ = some out) : Does Try.prog 5 [slD s1_, slD s2_] [] (slices_Equal_int_P out) := by
 unfold slices_Equal_int_F at H
 refine Does.intro Try.func5 Z Try.ntmps5 Z fun w0 I0 tb0 => ?_
 refine Qi (Qc (Qa (Qh Z Z) (Qm (Qd (Qi (Qi (Qc (Qa (Qj Z Z) (Qa (ps_len Z (by constructor) Z) ?_)))))))))
 refine GoO.lenLe (n := s1_.length) (x := .tmp 6) Z (by constructor) sl_lenLe (fun ml1 => ?_)
 refine Qa (Qj Z Z) (Qa (ps_len Z (by constructor) Z) ?_)
 refine GoO.lenLe (n := s2_.length) (x := .tmp 8) Z (by constructor) sl_lenLe (fun ml2 => ?_)
 refine Qa (ps_neq Z Z Z) (Qm (Qd (Jf Z (fun h3 => ?_) (fun h3 => ?_))))
 replace H := ite_t h3 H
 refine Qi (Qc (Qa (Qh Z Z) (Qm (Qd ?_))))
 obtain rfl := Qg H
 exact Ja (ds := [.v (.bool false)]) Try.results5 (Qs (Qw Z) (Qz)) (Ql _) ⟨Z, Z⟩
 replace H := ite_f h3 H
 refine Ji (Qd (Qi (Qi (Qc (Qa (Qj Z Z) (Qa (ps_len Z (by constructor) Z) ?_))))))
 refine Qa (Qj Z Z) (Qm (Qd ?_))
 have hb := bind_l H; clear H
 obtain ⟨q6, hl11, HK4⟩ := hb
 refine GoC.blockJ [] [] (fun v h => q6 = .go () ∧ v = [] ∧ h = []) ?_ ?_
 refine GoC.loopJ [(0, _), (1, _), (12, _)] [] (fun mQ v h => ∃ (k7 : Nat), (k7 + mQ = s1_.length ∧ forC (slices_Equal_int_B1 s1_ s2_) mQ k7 () = some q6) ∧ v = [(13, .v (.int .i64 ((k7 : Nat) : Int)))] ∧ h = []) s1_.length ⟨_, ⟨by omega, hl11⟩, Z, Z⟩ (Qe Z (Qe Z (Qe Z (Qe Z (Jc))))) (Jg _) ?_
 rintro m8 v h ⟨k7, ⟨hkk7, hF5⟩, rfl, rfl⟩
 refine Qi (Qc (Qa (ps_lss Z Z Z) (Qm (Qd (Qi (Jf Z (fun (hk7 : (k7 : Int) < ((s1_.length : Nat) : Int)) => ?_) (fun (hk7 : ¬ (k7 : Int) < ((s1_.length : Nat) : Int)) => ?_)))))))
 obtain ⟨m8', rfl⟩ : ∃ x, m8 = x + 1 := ⟨m8 - 1, by omega⟩
 have hb := bind_l hF5; clear hF5
 obtain ⟨qrm8, H, hF5⟩ := hb
 have hnk7 : k7 < s1_.length := by omega
 have hIk7 : InI ((k7 : Int) + 1) := inI_len hk7 ml1
 refine Ji (Qd (Qi (GoC.block (Qi (Qc (Qa (Qj Z Z) (Qa (Qh Z Z) (Qm (Qd (Qi (GoC.drawA (.q 0 (.q 1 (.q 2 (.q 3 (.q 4 (.q 5 (.q 6 (.q 7 (.q 8 (.done)))))))))) follows (by kernel_rfl) ?_)))))))))))
 iterate 2 refine Qx Z (Qj Z Z) ?_
 refine Qx Z (Jn Z Z hnk7 Z) (Qx Z (ps_loadR Z hnk7 Z Z) ?_)
 iterate 2 refine Qx Z (Qj Z Z) ?_
 have c9 := ck_l H; replace H := ck_r H
 refine Qx Z (Jn Z Z c9 Z) (Qx Z (ps_loadR Z c9 Z Z) (Qx Z (ps_neq Z Z Z) (GoP.done (Qd (Jf Z (fun h10 => ?_) (fun h10 => ?_))))))
 replace H := ite_t h10 H
 refine Qi (Qc (Qa (Qh Z Z) (Qm (Qd ?_))))
 obtain rfl := Qg H
 obtain rfl := Qg hF5
 obtain rfl := Qg HK4
 exact Ja (ds := [.v (.bool false)]) Try.results5 (Qs (Qw Z) (Qz)) (Ql _) ⟨Z, Z⟩
 replace H := ite_f h10 H
 refine Ji (GoK.blk (Qd (Qc (Qa (ps_add Z Z Z hIk7) (Qa (Qj Z Z) (Qm ?_))))))
 obtain rfl := Qg H
 exact GoK.againJ m8' (by omega) ⟨_, ⟨by omega, hF5⟩, Z, Z⟩ (Qe Z (Qe Z (Qe Z (Qe Z (Jc))))) (Jg _)
 obtain rfl : m8 = 0 := by omega
 refine GoC.exit Z ?_
 cases hF5
 exact GoK.meet ⟨Z, Z, Z⟩ (Jc) (Jg _)
 rintro v h ⟨rfl, rfl, rfl⟩
 have H := HK4; clear HK4
 refine Qd (Qi (Qc (Qa (Qh Z Z) (Qm (Qd ?_)))))
 obtain rfl := Qg H
 exact Ja (ds := [.v (.bool true)]) Try.results5 (Qs (Qw Z) (Qz)) (Ql _) ⟨Z, Z⟩
theorem slices_Equal_Errno_I (out : Bool) : IndepP (slices_Equal_Errno_P out) := IndepP.of (by rintro _ _ ⟨rfl, rfl⟩; exact ⟨inferInstance, inferInstance⟩)
theorem slices_Equal_Errno_spec (s1_ : (List Int)) (s2_ : (List Int)) {out : Bool} (H : slices_Equal_Errno_F s1_ s2_ = some out) : Does Try.prog 6 [slD s1_, slD s2_] [] (slices_Equal_Errno_P out) := by
 unfold slices_Equal_Errno_F at H
 refine Does.intro Try.func6 Z Try.ntmps6 Z fun w0 I0 tb0 => ?_
 refine Qi (Qc (Qa (Qh Z Z) (Qm (Qd (Qi (Qi (Qc (Qa (Qj Z Z) (Qa (ps_len Z (by constructor) Z) ?_)))))))))
 refine GoO.lenLe (n := s1_.length) (x := .tmp 6) Z (by constructor) sl_lenLe (fun ml1 => ?_)
 refine Qa (Qj Z Z) (Qa (ps_len Z (by constructor) Z) ?_)
 refine GoO.lenLe (n := s2_.length) (x := .tmp 8) Z (by constructor) sl_lenLe (fun ml2 => ?_)
 refine Qa (ps_neq Z Z Z) (Qm (Qd (Jf Z (fun h3 => ?_) (fun h3 => ?_))))
 replace H := ite_t h3 H
 refine Qi (Qc (Qa (Qh Z Z) (Qm (Qd ?_))))
 obtain rfl := Qg H
 exact Ja (ds := [.v (.bool false)]) Try.results6 (Qs (Qw Z) (Qz)) (Ql _) ⟨Z, Z⟩
 replace H := ite_f h3 H
 refine Ji (Qd (Qi (Qi (Qc (Qa (Qj Z Z) (Qa (ps_len Z (by constructor) Z) ?_))))))
 refine Qa (Qj Z Z) (Qm (Qd ?_))
 have hb := bind_l H; clear H
 obtain ⟨q6, hl11, HK4⟩ := hb
 refine GoC.blockJ [] [] (fun v h => q6 = .go () ∧ v = [] ∧ h = []) ?_ ?_
 refine GoC.loopJ [(0, _), (1, _), (12, _)] [] (fun mQ v h => ∃ (k7 : Nat), (k7 + mQ = s1_.length ∧ forC (slices_Equal_Errno_B1 s1_ s2_) mQ k7 () = some q6) ∧ v = [(13, .v (.int .i64 ((k7 : Nat) : Int)))] ∧ h = []) s1_.length ⟨_, ⟨by omega, hl11⟩, Z, Z⟩ (Qe Z (Qe Z (Qe Z (Qe Z (Jc))))) (Jg _) ?_
 rintro m8 v h ⟨k7, ⟨hkk7, hF5⟩, rfl, rfl⟩
 refine Qi (Qc (Qa (ps_lss Z Z Z) (Qm (Qd (Qi (Jf Z (fun (hk7 : (k7 : Int) < ((s1_.length : Nat) : Int)) => ?_) (fun (hk7 : ¬ (k7 : Int) < ((s1_.length : Nat) : Int)) => ?_)))))))
 obtain ⟨m8', rfl⟩ : ∃ x, m8 = x + 1 := ⟨m8 - 1, by omega⟩
 have hb := bind_l hF5; clear hF5
 obtain ⟨qrm8, H, hF5⟩ := hb
 have hnk7 : k7 < s1_.length := by omega
 have hIk7 : InI ((k7 : Int) + 1) := inI_len hk7 ml1
 refine Ji (Qd (Qi (GoC.block (Qi (Qc (Qa (Qj Z Z) (Qa (Qh Z Z) (Qm (Qd (Qi (GoC.drawA (.q 0 (.q 1 (.q 2 (.q 3 (.q 4 (.q 5 (.q 6 (.q 7 (.q 8 (.done)))))))))) follows (by kernel_rfl) ?_)))))))))))
 iterate 2 refine Qx Z (Qj Z Z) ?_
 refine Qx Z (Jn Z Z hnk7 Z) (Qx Z (ps_loadR Z hnk7 Z Z) ?_)
 iterate 2 refine Qx Z (Qj Z Z) ?_
 have c9 := ck_l H; replace H := ck_r H
 refine Qx Z (Jn Z Z c9 Z) (Qx Z (ps_loadR Z c9 Z Z) (Qx Z (ps_neq Z Z Z) (GoP.done (Qd (Jf Z (fun h10 => ?_) (fun h10 => ?_))))))
 replace H := ite_t h10 H
 refine Qi (Qc (Qa (Qh Z Z) (Qm (Qd ?_))))
 obtain rfl := Qg H
 obtain rfl := Qg hF5
 obtain rfl := Qg HK4
 exact Ja (ds := [.v (.bool false)]) Try.results6 (Qs (Qw Z) (Qz)) (Ql _) ⟨Z, Z⟩
 replace H := ite_f h10 H
 refine Ji (GoK.blk (Qd (Qc (Qa (ps_add Z Z Z hIk7) (Qa (Qj Z Z) (Qm ?_))))))
 obtain rfl := Qg H
 exact GoK.againJ m8' (by omega) ⟨_, ⟨by omega, hF5⟩, Z, Z⟩ (Qe Z (Qe Z (Qe Z (Qe Z (Jc))))) (Jg _)
 obtain rfl : m8 = 0 := by omega
 refine GoC.exit Z ?_
 cases hF5
 exact GoK.meet ⟨Z, Z, Z⟩ (Jc) (Jg _)
 rintro v h ⟨rfl, rfl, rfl⟩
 have H := HK4; clear HK4
 refine Qd (Qi (Qc (Qa (Qh Z Z) (Qm (Qd ?_)))))
 obtain rfl := Qg H
 exact Ja (ds := [.v (.bool true)]) Try.results6 (Qs (Qw Z) (Qz)) (Ql _) ⟨Z, Z⟩
theorem slices_Equal_Arc_I (out : Bool) : IndepP (slices_Equal_Arc_P out) := IndepP.of (by rintro _ _ ⟨rfl, rfl⟩; exact ⟨inferInstance, inferInstance⟩)
theorem slices_Equal_Arc_spec (s1_ : (List Arc)) (s2_ : (List Arc)) {out : Bool} (H : slices_Equal_Arc_F s1_ s2_ = some out) : Does Try.prog 14 [slD s1_, slD s2_] [] (slices_Equal_Arc_P out) := by
 unfold slices_Equal_Arc_F at H
 refine Does.intro Try.func14 Z Try.ntmps14 Z fun w0 I0 tb0 => ?_
 refine Qi (Qc (Qa (Qh Z Z) (Qm (Qd (Qi (Qi (Qc (Qa (Qj Z Z) (Qa (ps_len Z (by constructor) Z) ?_)))))))))
 refine GoO.lenLe (n := s1_.length) (x := .tmp 6) Z (by constructor) sl_lenLe (fun ml1 => ?_)
 refine Qa (Qj Z Z) (Qa (ps_len Z (by constructor) Z) ?_)
 refine GoO.lenLe (n := s2_.length) (x := .tmp 8) Z (by constructor) sl_lenLe (fun ml2 => ?_)
 refine Qa (ps_neq Z Z Z) (Qm (Qd (Jf Z (fun h3 => ?_) (fun h3 => ?_))))
 replace H := ite_t h3 H
 refine Qi (Qc (Qa (Qh Z Z) (Qm (Qd ?_))))
 obtain rfl := Qg H
 exact Ja (ds := [.v (.bool false)]) Try.results14 (Qs (Qw Z) (Qz)) (Ql _) ⟨Z, Z⟩
 replace H := ite_f h3 H
 refine Ji (Qd (Qi (Qi (Qc (Qa (Qj Z Z) (Qa (ps_len Z (by constructor) Z) ?_))))))
 refine Qa (Qj Z Z) (Qm (Qd ?_))
 have hb := bind_l H; clear H
 obtain ⟨q6, hl11, HK4⟩ := hb
 refine GoC.blockJ [] [] (fun v h => q6 = .go () ∧ v = [] ∧ h = []) ?_ ?_
 refine GoC.loopJ [(0, _), (1, _), (12, _)] [] (fun mQ v h => ∃ (k7 : Nat), (k7 + mQ = s1_.length ∧ forC (slices_Equal_Arc_B1 s1_ s2_) mQ k7 () = some q6) ∧ v = [(13, .v (.int .i64 ((k7 : Nat) : Int)))] ∧ h = []) s1_.length ⟨_, ⟨by omega, hl11⟩, Z, Z⟩ (Qe Z (Qe Z (Qe Z (Qe Z (Jc))))) (Jg _) ?_
 rintro m8 v h ⟨k7, ⟨hkk7, hF5⟩, rfl, rfl⟩
 refine Qi (Qc (Qa (ps_lss Z Z Z) (Qm (Qd (Qi (Jf Z (fun (hk7 : (k7 : Int) < ((s1_.length : Nat) : Int)) => ?_) (fun (hk7 : ¬ (k7 : Int) < ((s1_.length : Nat) : Int)) => ?_)))))))
 obtain ⟨m8', rfl⟩ : ∃ x, m8 = x + 1 := ⟨m8 - 1, by omega⟩
 have hb := bind_l hF5; clear hF5
 obtain ⟨qrm8, H, hF5⟩ := hb
 have hnk7 : k7 < s1_.length := by omega
 have hIk7 : InI ((k7 : Int) + 1) := inI_len hk7 ml1
 refine Ji (Qd (Qi (GoC.block (Qi (Qc (Qa (Qj Z Z) (Qa (Qh Z Z) (Qm (Qd (Qi (GoC.drawA (.q 0 (.q 1 (.q 2 (.q 3 (.q 4 (.q 5 (.q 6 (.q 7 (.q 8 (.done)))))))))) follows (by kernel_rfl) ?_)))))))))))
 iterate 2 refine Qx Z (Qj Z Z) ?_
 refine Qx Z (Jn Z Z hnk7 Z) (Qx Z (ps_loadAgR Z hnk7 Z Z) ?_)
 iterate 2 refine Qx Z (Qj Z Z) ?_
 have c9 := ck_l H; replace H := ck_r H
 refine Qx Z (Jn Z Z c9 Z) (Qx Z (ps_loadAgR Z c9 Z Z) (Qx Z (ps_neqS Z Z Z Z Z Z Z Z Z) (GoP.done (Qd (Jf Z (fun h10 => ?_) (fun h10 => ?_))))))
 replace H := ite_t h10 H
 refine Qi (Qc (Qa (Qh Z Z) (Qm (Qd ?_))))
 obtain rfl := Qg H
 obtain rfl := Qg hF5
 obtain rfl := Qg HK4
 exact Ja (ds := [.v (.bool false)]) Try.results14 (Qs (Qw Z) (Qz)) (Ql _) ⟨Z, Z⟩
 replace H := ite_f h10 H
 refine Ji (GoK.blk (Qd (Qc (Qa (ps_add Z Z Z hIk7) (Qa (Qj Z Z) (Qm ?_))))))
 obtain rfl := Qg H
 exact GoK.againJ m8' (by omega) ⟨_, ⟨by omega, hF5⟩, Z, Z⟩ (Qe Z (Qe Z (Qe Z (Qe Z (Jc))))) (Jg _)
 obtain rfl : m8 = 0 := by omega
 refine GoC.exit Z ?_
 cases hF5
 exact GoK.meet ⟨Z, Z, Z⟩ (Jc) (Jg _)
 rintro v h ⟨rfl, rfl, rfl⟩
 have H := HK4; clear HK4
 refine Qd (Qi (Qc (Qa (Qh Z Z) (Qm (Qd ?_)))))
 obtain rfl := Qg H
 exact Ja (ds := [.v (.bool true)]) Try.results14 (Qs (Qw Z) (Qz)) (Ql _) ⟨Z, Z⟩
theorem slices_Clone_Arc_I (out : (List Arc)) : IndepP (slices_Clone_Arc_P out) := IndepP.of (by rintro _ _ ⟨β1, rfl, rfl⟩; exact ⟨inferInstance, inferInstance⟩)
theorem slices_Clone_Arc_spec (s_ : (List Arc)) {out : (List Arc)} (H : slices_Clone_Arc_F s_ = some out) : Does Try.prog 50 [slD s_] [] (slices_Clone_Arc_P out) := by
 unfold slices_Clone_Arc_F at H
 refine Does.intro Try.func50 Z Try.ntmps50 Z fun w0 I0 tb0 => ?_
 refine Qi (Qc (Qa (Qh Z Z) (Qm (Qd (Qi (Qi (Qc (Qa (Qj Z Z) (GoO.eff (ef_eqlNil Z Z Z) (fun s2 hs2 => ?_))))))))))
 obtain ⟨bn1, hbn1, rfl⟩ := hs2
 refine Qm (Qd (GoC.cond Z (fun h2 => ?_) (fun h2 => ?_)))
 have e0 := List.eq_nil_of_length_eq_zero (hbn1 h2); subst e0; replace H := ck_r H
 refine Qi (Qc (Qa (Qh Z Z) (Qm (Qd ?_))))
 obtain rfl := Qg H
 refine GoC.le (le_row0 57 3 (row ([] : List Arc)) Z) ?_
 exact Ja (ds := [.own ⟨0, 0, 0⟩ 3 0 0]) Try.results50 (Qs (ResD.le (Qw Z) (by exact DLe.nilOwn)) (Qz)) (Qk _ _ _ _ _ Qp (Ql _)) ⟨⟨0, 0, 0⟩, Z, Z⟩
 refine Ji (Qd (Qi (Qc (Jm (ef_buildSlice (row (([] : List Arc) : List Arc)) Z (Parts.nil _) Z Z Z Z) (fun β3 => ?_)))))
 refine Qa (Qj Z Z) ?_
 have c5 := ck_l H; replace H := ck_r H
 refine Jm (ef_append Z Z Qp Src.sl (cat_row (α := Arc) (by first|rfl|omega|(simp only[szl]<;>first|rfl|omega)) (by first|rfl|omega|(simp only[szl]<;>first|rfl|omega)) (fun _ _ _ _ => Z)) (by first | omega | (simp only [szl]; omega) | (simp only [szl]; done)) (app_le c5 Z) Z Z Z) (fun β4 => ?_)
 refine Qa (Qh Z Z) (Qm (Qd ?_))
 obtain rfl := Qg H
 exact Ja (ds := [.own β4 3 0 (([] : List Arc) ++ s_).length]) Try.results50 (Qs (ResD.le (Qw Z) (by exact Jq (by first|rfl|omega|(simp only [row_len, gridC_len, rowO_len, List.length_append, List.length_cons, List.length_nil, List.length_nil] <;>first|rfl|omega)))) (Qz)) (Qk _ _ _ _ _ Qp (Ql _)) ⟨β4, Z, Z⟩
theorem slices_Clone_int_I (out : (List Int)) : IndepP (slices_Clone_int_P out) := IndepP.of (by rintro _ _ ⟨β1, rfl, rfl⟩; exact ⟨inferInstance, inferInstance⟩)
theorem slices_Clone_int_spec (s_ : (List Int)) {out : (List Int)} (H : slices_Clone_int_F s_ = some out) : Does Try.prog 55 [slD s_] [] (slices_Clone_int_P out) := by
 unfold slices_Clone_int_F at H
 refine Does.intro Try.func55 Z Try.ntmps55 Z fun w0 I0 tb0 => ?_
 refine Qi (Qc (Qa (Qh Z Z) (Qm (Qd (Qi (Qi (Qc (Qa (Qj Z Z) (GoO.eff (ef_eqlNil Z Z Z) (fun s2 hs2 => ?_))))))))))
 obtain ⟨bn1, hbn1, rfl⟩ := hs2
 refine Qm (Qd (GoC.cond Z (fun h2 => ?_) (fun h2 => ?_)))
 have e0 := List.eq_nil_of_length_eq_zero (hbn1 h2); subst e0; replace H := ck_r H
 refine Qi (Qc (Qa (Qh Z Z) (Qm (Qd ?_))))
 obtain rfl := Qg H
 refine GoC.le (le_row0 3 1 (row ([] : List Int)) Z) ?_
 exact Ja (ds := [.own ⟨0, 0, 0⟩ 1 0 0]) Try.results55 (Qs (ResD.le (Qw Z) (by exact DLe.nilOwn)) (Qz)) (Qk _ _ _ _ _ Qp (Ql _)) ⟨⟨0, 0, 0⟩, Z, Z⟩
 refine Ji (Qd (Qi (Qc (Jm (ef_buildSlice (row (([] : List Int) : List Int)) Z (Parts.nil _) Z Z Z Z) (fun β3 => ?_)))))
 refine Qa (Qj Z Z) ?_
 have c5 := ck_l H; replace H := ck_r H
 refine Jm (ef_append Z Z Qp Src.sl (cat_row (α := Int) (by first|rfl|omega|(simp only[szl]<;>first|rfl|omega)) (by first|rfl|omega|(simp only[szl]<;>first|rfl|omega)) (fun _ _ _ _ => Z)) (by first | omega | (simp only [szl]; omega) | (simp only [szl]; done)) (app_le c5 Z) Z Z Z) (fun β4 => ?_)
 refine Qa (Qh Z Z) (Qm (Qd ?_))
 obtain rfl := Qg H
 exact Ja (ds := [.own β4 1 0 (([] : List Int) ++ s_).length]) Try.results55 (Qs (ResD.le (Qw Z) (by exact Jq (by first|rfl|omega|(simp only [row_len, gridC_len, rowO_len, List.length_append, List.length_cons, List.length_nil, List.length_nil] <;>first|rfl|omega)))) (Qz)) (Qk _ _ _ _ _ Qp (Ql _)) ⟨β4, Z, Z⟩
theorem slices_Grow_Piece_spec (n_ : Int) {out : (List Piece)} (H : slices_Grow_Piece_F n_ = some out) : Does Try.prog 70 [.v (.slice none 0 0), .v (.int .i64 n_)] [] (slices_Grow_Piece_P out) := by
 unfold slices_Grow_Piece_F at H
 refine Does.intro Try.func70 Z Try.ntmps70 Z fun w0 I0 tb0 => ?_
 refine Qi (Qc (Qa (Qh Z Z) (Qm (Qd ?_))))
 have hb := bind_l H; clear H
 obtain ⟨⟨⟩, H, HK1⟩ := hb
 refine GoC.seqJ [(0, .v (.slice none 0 0)), (1, .v (.int .i64 n_))] [] (fun v h => v = [] ∧ h = []) ?_ ?_
 refine Qi (Qc (Qa (Qj Z Z) (Qa (ps_lss Z Z Z) (Qm (Qd (Jf Z (fun h3 => ?_) (fun h3 => ?_)))))))
 replace H := ite_t h3 H
 cases H
 replace H := ite_f h3 H
 refine Ji ?_
 cases H
 exact GoK.meet ⟨Z, Z⟩ (Qe Z (Qe Z (Jc))) (Jg _)
 rintro v h ⟨rfl, rfl⟩
 have H := HK1; clear HK1
 refine Qi (Qi (Qc ?_))
 iterate 2 refine Qa (Qj Z Z) ?_
 refine Qa (ps_capNil Z Z) (Qa (Qj Z Z) (Qa (ps_len Z (by constructor) Z) ?_))
 have c4 := ck_l H; replace H := ck_r H
 refine Qa (ps_sub Z Z Z c4) ?_
 have c5 := ck_l H; replace H := ck_r H
 refine Qa (ps_sub Z Z Z c5) (Qa (Qh Z Z) (Qm (Qd (Qi (Qc (Qa (Qj Z Z) (Qa (ps_gtr Z Z Z) (Qm (Qd ?_)))))))))
 refine Jf Z (fun h6 => ?_) (fun h6 => ?_)
 replace H := ite_t h6 H
 refine Qc ?_
 iterate 2 refine Qa (Qj Z Z) ?_
 refine Qa (ps_capNil Z Z) (Qa (ps_sliceNil Z Z Z) (Qa (Qj Z Z) ?_))
 have c8 := ck_l H; replace H := ck_r H
 refine Jm (ef_appendZ Z Z c8 Z Z Z) (fun β7 => ?_)
 refine GoO.le (Le.reH Qy (HLe.zeros (α := Piece) ⟨⟨Qq, Qb _⟩, DLe.nilSl⟩)) ?_
 refine Qa (Qj Z Z) (Qa (ps_len Z (by constructor) Z) ?_)
 refine Qa (ps_slice Z (Bd.no _) (Bd.nat _ _ 0 _ Z) (Nat.zero_le _) (Nat.zero_le _) Z) (GoO.le (Le.shift Qy (by first | omega | (simp only [szl]; omega) | (simp only [szl, eldI]; omega))) ?_)
 refine GoO.le (Le.reH Qy (HLe.part (xs := (List.replicate ((n_ - (0 - 0)).toNat) El.d)) (r := 0 + 0) (len := 0) (by first | omega | (simp only [szl]; omega)))) ?_
 generalize (⟨β7.b, β7.o + (0 + 0) * 2, β7.s - (0 + 0)⟩ : BK) = β9
 refine Qa (Qh Z Z) (Qm (Qd (Qi (Qc (Qa (Qj Z Z) (Qa (Qh Z Z) (Qm (Qd ?_))))))))
 obtain rfl := Qg H
 exact Ja (ds := [.own β9 2 0 (subl (List.replicate ((n_ - (0 - 0)).toNat) El.d) 0 0).length]) Try.results70 (Qs (ResD.le (Qw Z) (by exact Jq (by first|rfl|omega|(simp only [row_len, gridC_len, rowO_len, List.length_replicate, subl_length] <;>first|rfl|omega)))) (Qz)) (Qk _ _ _ _ _ Qp (Ql _)) ⟨β9, Z, Z⟩
 replace H := ite_f h6 H
 refine Ji (Qd (Qi (Qc (Qa (Qj Z Z) (Qa (Qh Z Z) (Qm (Qd ?_)))))))
 obtain rfl := Qg H
 refine GoC.le (le_row0 115 2 (row ([] : List Piece)) Z) ?_
 exact Ja (ds := [.own ⟨0, 0, 0⟩ 2 0 0]) Try.results70 (Qs (ResD.le (Qw Z) (by exact DLe.nilOwn)) (Qz)) (Qk _ _ _ _ _ Qp (Ql _)) ⟨⟨0, 0, 0⟩, Z, Z⟩
theorem slices_Concat_Piece_spec (ss_ : (List (List Piece))) {out : (List Piece)} (H : slices_Concat_Piece_F ss_ = some out) : Does Try.prog 57 [slD ss_] [] (slices_Concat_Piece_P out) := by
 unfold slices_Concat_Piece_F at H
 refine Does.intro Try.func57 Z Try.ntmps57 Z fun w0 I0 tb0 => ?_
 refine Qi (Qc (Qa (Qh Z Z) (Qm (Qd (Qi (Qc (Qa (Qh Z Z) (Qm (Qd (Qi (Qi (Qc (Qa (Qj Z Z) ?_)))))))))))))
 refine Qa (ps_len Z (by constructor) Z) ?_
 refine GoO.lenLe (n := ss_.length) (x := .tmp 9) Z (by constructor) sl_lenLe (fun ml1 => ?_)
 refine Qa (Qj Z Z) (Qm (Qd ?_))
 have hb := bind_l H; clear H
 obtain ⟨n6, hl12, HK3⟩ := hb
 refine GoC.blockJ [(0, slD ss_)] [] (fun v h => v = [(3, .v (.int .i64 ((n6 : Nat) : Int)))] ∧ h = []) ?_ ?_
 refine GoC.loopJ [(0, _), (9, _), (10, _)] [] (fun mQ v h => ∃ (k7 : Nat) (n2 : Nat), (k7 + mQ = ss_.length ∧ forN (slices_Concat_Piece_B1 ss_) mQ k7 n2 = some n6) ∧ v = [(11, .v (.int .i64 ((k7 : Nat) : Int))), (3, .v (.int .i64 ((n2 : Nat) : Int)))] ∧ h = []) ss_.length ⟨_, _, ⟨by omega, hl12⟩, Z, Z⟩ (Qe Z (Qe Z (Qe Z (Qe Z (Qe Z (Jc)))))) (Jg _) ?_
 rintro m8 v h ⟨k7, n2, ⟨hkk7, hF4⟩, rfl, rfl⟩
 refine Qi (Qc (Qa (ps_lss Z Z Z) (Qm (Qd (Qi (Jf Z (fun (hk7 : (k7 : Int) < ((ss_.length : Nat) : Int)) => ?_) (fun (hk7 : ¬ (k7 : Int) < ((ss_.length : Nat) : Int)) => ?_)))))))
 obtain ⟨m8', rfl⟩ : ∃ x, m8 = x + 1 := ⟨m8 - 1, by omega⟩
 have hb := bind_l hF4; clear hF4
 obtain ⟨qrm8, H, hF4⟩ := hb
 have hnk7 : k7 < ss_.length := by omega
 have hIk7 : InI ((k7 : Int) + 1) := inI_len hk7 ml1
 refine Ji (Qd (Qi (GoC.block (Qi (Qc (Qa (Jn Z Z hnk7 Z) (Qa (ps_loadR Z hnk7 Z Z) (Qa (Qh Z Z) (Qm (Qd (Qi (Qc ?_))))))))))))
 iterate 2 refine Qa (Qj Z Z) ?_
 refine Qa (ps_len Z (by constructor) Z) ?_
 refine GoO.lenLe (n := (ss_.getD k7 []).length) (x := .tmp 16) Z (by constructor) sl_lenLe (fun ml9 => ?_)
 have c10 := ck_l H; replace H := ck_r H
 refine Qa (ps_add Z Z Z c10) (Qa (Qh Z Z) (Qm (Qd (Qi (Qc (Qa (Qj Z Z) (Qa (ps_lss Z Z Z) (Qm (Qd ?_)))))))))
 refine Jf Z (fun h11 => ?_) (fun h11 => ?_)
 replace H := ite_t h11 H
 cases H
 replace H := ite_f h11 H
 refine Ji (GoK.blk (Qd (Qc (Qa (ps_add Z Z Z hIk7) (Qa (Qj Z Z) (Qm ?_))))))
 obtain rfl := Qg H
 exact GoK.againJ m8' (by omega) ⟨_, _, ⟨by omega, hF4⟩, Z, Z⟩ (Qe Z (Qe Z (Qe Z (Qe Z (Qe Z (Jc)))))) (Jg _)
 obtain rfl : m8 = 0 := by omega
 refine GoC.exit Z ?_
 cases hF4
 exact GoK.meet ⟨Z, Z⟩ (Qe Z (Qe Z (Jc))) (Jg _)
 rintro v h ⟨rfl, rfl⟩
 have H := HK3; clear HK3
 refine Qd (Qi (Qc (Qa (Qj Z Z) ?_)))
 have hb := bind_l H; clear H
 obtain ⟨r13, e15, H⟩ := hb
 refine GoO.callF Z (Ql _) (Ql _) (slices_Grow_Piece_spec ((n6 : Nat) : Int) e15) (Qt (Qo _ _) (Qt (Qo _ _) (Jj))) Z nil_fps (fun rr HH hp => ?_)
 obtain ⟨β14, rfl, rfl⟩ := hp
 refine Qa (Qh Z Z) (Qm (Qd (Qi (Qi (Qc (Qa (Qj Z Z) (Qa (ps_len Z (by constructor) Z) ?_)))))))
 refine Qa (Qj Z Z) (Qm (Qd ?_))
 have hb := bind_l H; clear H
 obtain ⟨l21, hl26, HK18⟩ := hb
 refine GoC.blockJ [] [] (fun v h => ∃ (β16 : BK), v = [(6, .own β16 2 0 l21.length)] ∧ h = [.one β16 115 2 (row l21)]) ?_ ?_
 refine GoC.loopJ [(25, _), (26, _)] [] (fun mQ v h => ∃ (k22 : Nat) (l17 : (List Piece)) (β16 : BK), (k22 + mQ = ss_.length ∧ forN (slices_Concat_Piece_B2 ss_) mQ k22 l17 = some l21) ∧ v = [(27, .v (.int .i64 ((k22 : Nat) : Int))), (6, .own β16 2 0 l17.length)] ∧ h = [.one β16 115 2 (row l17)]) ss_.length ⟨_, _, β14, ⟨by omega, hl26⟩, Z, Z⟩ (Qe Z (Jo Z (Jq (by first|rfl|omega|(simp only [row_len, gridC_len, rowO_len] <;>first|rfl|omega))) (Qe Z (Qe Z (Jc))))) (Qn _ _ _ _ _ Qp (Qu _) (Jg _)) ?_
 rintro m23 v h ⟨k22, l17, β16, ⟨hkk22, hF19⟩, rfl, rfl⟩
 refine Qi (Qc (Qa (ps_lss Z Z Z) (Qm (Qd (Qi (Jf Z (fun (hk22 : (k22 : Int) < ((ss_.length : Nat) : Int)) => ?_) (fun (hk22 : ¬ (k22 : Int) < ((ss_.length : Nat) : Int)) => ?_)))))))
 obtain ⟨m23', rfl⟩ : ∃ x, m23 = x + 1 := ⟨m23 - 1, by omega⟩
 have hb := bind_l hF19; clear hF19
 obtain ⟨qrm23, H, hF19⟩ := hb
 have hnk22 : k22 < ss_.length := by omega
 have hIk22 : InI ((k22 : Int) + 1) := inI_len hk22 ml1
 refine Ji (Qd (Qi (GoC.block (Qi (Qc (Qa (Jn Z Z hnk22 Z) (Qa (ps_loadR Z hnk22 Z Z) (Qa (Qh Z Z) (Qm (Qd (Qc ?_)))))))))))
 iterate 2 refine Qa (Qj Z Z) ?_
 have c25 := ck_l H; replace H := ck_r H
 refine Jm (ef_append Z Z Qp Src.sl (cat_row (α := Piece) (by first|rfl|omega|(simp only[szl]<;>first|rfl|omega)) (by first|rfl|omega|(simp only[szl]<;>first|rfl|omega)) (fun _ _ _ _ => Z)) (by first | omega | (simp only [szl]; omega) | (simp only [szl]; done)) (app_le c25 Z) Z Z Z) (fun β24 => ?_)
 refine Qa (Qh Z Z) (Qm (GoK.blk (Qd (Qc (Qa (ps_add Z Z Z hIk22) (Qa (Qj Z Z) (Qm ?_)))))))
 obtain rfl := Qg H
 exact GoK.againJ m23' (by omega) ⟨_, _, β24, ⟨by omega, hF19⟩, Z, Z⟩ (Qe Z (Jo Z (Jq (by first|rfl|omega|(simp only [row_len, gridC_len, rowO_len, List.length_append, List.length_cons, List.length_nil, List.length_nil] <;>first|rfl|omega))) (Qe Z (Qe Z (Jc))))) (Qn _ _ _ _ _ Qp (Qu _) (Jg _))
 obtain rfl : m23 = 0 := by omega
 refine GoC.exit Z ?_
 cases hF19
 exact GoK.meet ⟨β16, Z, Z⟩ (Jo Z (Jq (by first|rfl|omega|(simp only [row_len, gridC_len, rowO_len] <;>first|rfl|omega))) (Jc)) (Qn _ _ _ _ _ Qp (Qu _) (Jg _))
 rintro v h ⟨β16, rfl, rfl⟩
 have H := HK18; clear HK18
 refine Qd (Qi (Qc (Qa (Qj Z Z) (Qa (Qh Z Z) (Qm (Qd ?_))))))
 obtain rfl := Qg H
 exact Ja (ds := [.own β16 2 0 l21.length]) Try.results57 (Qs (Qw Z) (Qz)) (Qk _ _ _ _ _ Qp (Ql _)) ⟨β16, Z, Z⟩
theorem slices_Index_int_I (out : Int) : IndepP (slices_Index_int_P out) := IndepP.of (by rintro _ _ ⟨rfl, rfl⟩; exact ⟨inferInstance, inferInstance⟩)
theorem slices_Index_int_spec (s_ : (List Int)) (v_ : Int) {out : Int} (H : slices_Index_int_F s_ v_ = some out) : Does Try.prog 71 [slD s_, .v (.int .i64 v_)] [] (slices_Index_int_P out) := by
 unfold slices_Index_int_F at H
 refine Does.intro Try.func71 Z Try.ntmps71 Z fun w0 I0 tb0 => ?_
 refine Qi (Qc (Qa (Qh Z Z) (Qm (Qd (Qi (Qi (Qc (Qa (Qj Z Z) (Qa (ps_len Z (by constructor) Z) ?_)))))))))
 refine GoO.lenLe (n := s_.length) (x := .tmp 6) Z (by constructor) sl_lenLe (fun ml1 => ?_)
 refine Qa (Qj Z Z) (Qm (Qd ?_))
 have hb := bind_l H; clear H
 obtain ⟨q4, hl8, HK2⟩ := hb
 refine GoC.blockJ [] [] (fun v h => q4 = .go () ∧ v = [] ∧ h = []) ?_ ?_
 refine GoC.loopJ [(0, _), (1, _), (7, _)] [] (fun mQ v h => ∃ (k5 : Nat), (k5 + mQ = s_.length ∧ forC (slices_Index_int_B1 s_ v_) mQ k5 () = some q4) ∧ v = [(8, .v (.int .i64 ((k5 : Nat) : Int)))] ∧ h = []) s_.length ⟨_, ⟨by omega, hl8⟩, Z, Z⟩ (Qe Z (Qe Z (Qe Z (Qe Z (Jc))))) (Jg _) ?_
 rintro m6 v h ⟨k5, ⟨hkk5, hF3⟩, rfl, rfl⟩
 refine Qi (Qc (Qa (ps_lss Z Z Z) (Qm (Qd (Qi (Jf Z (fun (hk5 : (k5 : Int) < ((s_.length : Nat) : Int)) => ?_) (fun (hk5 : ¬ (k5 : Int) < ((s_.length : Nat) : Int)) => ?_)))))))
 obtain ⟨m6', rfl⟩ : ∃ x, m6 = x + 1 := ⟨m6 - 1, by omega⟩
 have hb := bind_l hF3; clear hF3
 obtain ⟨qrm6, H, hF3⟩ := hb
 have hnk5 : k5 < s_.length := by omega
 have hIk5 : InI ((k5 : Int) + 1) := inI_len hk5 ml1
 refine Ji (Qd (Qi (GoC.block (Qi (Qc (Qa (Qj Z Z) (Qa (Qh Z Z) (Qm (Qd (Qi (Qc ?_)))))))))))
 iterate 3 refine Qa (Qj Z Z) ?_
 refine Qa (Jn Z Z hnk5 Z) (Qa (ps_loadR Z hnk5 Z Z) (Qa (ps_eql Z Z Z) (Qm (Qd (Jf Z (fun h7 => ?_) (fun h7 => ?_))))))
 replace H := ite_t h7 H
 refine Qi (Qc (Qa (Qj Z Z) (Qa (Qh Z Z) (Qm (Qd ?_)))))
 obtain rfl := Qg H
 obtain rfl := Qg hF3
 obtain rfl := Qg HK2
 exact Ja (ds := [.v (.int .i64 ((k5 : Nat) : Int))]) Try.results71 (Qs (Qw Z) (Qz)) (Ql _) ⟨Z, Z⟩
 replace H := ite_f h7 H
 refine Ji (GoK.blk (Qd (Qc (Qa (ps_add Z Z Z hIk5) (Qa (Qj Z Z) (Qm ?_))))))
 obtain rfl := Qg H
 exact GoK.againJ m6' (by omega) ⟨_, ⟨by omega, hF3⟩, Z, Z⟩ (Qe Z (Qe Z (Qe Z (Qe Z (Jc))))) (Jg _)
 obtain rfl : m6 = 0 := by omega
 refine GoC.exit Z ?_
 cases hF3
 exact GoK.meet ⟨Z, Z, Z⟩ (Jc) (Jg _)
 rintro v h ⟨rfl, rfl, rfl⟩
 have H := HK2; clear HK2
 refine Qd (Qi (Qc (Qa (Qh Z Z) (Qm (Qd ?_)))))
 obtain rfl := Qg H
 exact Ja (ds := [.v (.int .i64 (-1))]) Try.results71 (Qs (Qw Z) (Qz)) (Ql _) ⟨Z, Z⟩
theorem slices_Contains_int_I (out : Bool) : IndepP (slices_Contains_int_P out) := IndepP.of (by rintro _ _ ⟨rfl, rfl⟩; exact ⟨inferInstance, inferInstance⟩)
theorem slices_Contains_int_spec (s_ : (List Int)) (v_ : Int) {out : Bool} (H : slices_Contains_int_F s_ v_ = some out) : Does Try.prog 58 [slD s_, .v (.int .i64 v_)] [] (slices_Contains_int_P out) := by
 unfold slices_Contains_int_F at H
 refine Does.intro Try.func58 Z Try.ntmps58 Z fun w0 I0 tb0 => ?_
 refine Qi (Qc (Qa (Qh Z Z) (Qm (Qd (Qi (Qc ?_))))))
 iterate 2 refine Qa (Qj Z Z) ?_
 have hb := bind_l H; clear H
 obtain ⟨r1, e2, H⟩ := hb
 refine GoO.effC (ef_call Z (Ql _) (Ql _) (slices_Index_int_spec s_ v_ e2) (Qt (Qo _ _) (Qt (Qo _ _) (Jj))) Z (slices_Index_int_I (r1))) (fun rr HH hp => ?_)
 obtain ⟨rfl, rfl⟩ := hp
 refine Qa (ps_geq Z Z Z) (Qa (Qh Z Z) (Qm (Qd ?_)))
 obtain rfl := Qg H
 exact Ja (ds := [.v (.bool (decide (0 ≤ r1)))]) Try.results58 (Qs (Qw Z) (Qz)) (Ql _) ⟨Z, Z⟩
theorem slices_Delete_Arc_I (out : (List Arc)) (βl : BK) : IndepP (slices_Delete_Arc_P out βl) := IndepP.of (by rintro _ _ ⟨β1, rfl, rfl⟩; exact ⟨inferInstance, inferInstance⟩)
theorem slices_Delete_Arc_spec (l : (List Arc)) (i j : Int) (βl : BK) {out : (List Arc)} (H : slices_Delete_Arc_F l i j = some out) : Does Try.prog 59 [.own βl 3 0 l.length, .v (.int .i64 i), .v (.int .i64 j)] [.one βl 57 3 (row l)] (slices_Delete_Arc_P out βl) := by
 unfold slices_Delete_Arc_F at H
 have c1 := ck_l H; replace H := ck_r H
 have c2 := ck_l H; replace H := ck_r H
 have c3 := ck_l H; replace H := ck_r H
 have c4 := ck_l H; replace H := ck_r H
 obtain rfl := Qg H
 obtain ⟨a, rfl⟩ := Int.eq_ofNat_of_zero_le c1
 obtain ⟨b, rfl⟩ := Int.eq_ofNat_of_zero_le (Int.le_trans c1 c2)
 simp only [Int.ofNat_eq_natCast, Int.toNat_natCast] at *
 have ab : a ≤ b := by omega
 have bl : b ≤ l.length := by omega
 have dl : (del l a b).length = a + (l.length - b) := del_length (by omega)
 refine Does.intro Try.func59 Z Try.ntmps59 Z fun w0 I0 tb0 => ?_
 refine Qi (Qc (Qa (Qh Z Z) (Qm (Qd (GoC.exactJ 0 Z fun ad m hE => ?_)))))
 have lm := hE.le
 refine Qi (Qc ?_)
 iterate 4 refine Qa (Qj Z Z) ?_
 refine Qa (ps_len Z (by constructor) Z) ?_
 refine Qa (ps_slice3J Z Z Z Z ab bl lm Z) (Qm (Qd (Qi (Qi (Qc ?_)))))
 iterate 2 refine Qa (Qj Z Z) ?_
 refine Qa (ps_eql Z Z Z) (Qm (Qd (Jf Z (fun (hc : (a : Int) = (b : Int)) => ?_) (fun (hc : ¬ (a : Int) = (b : Int)) => ?_))))
 refine Qi (Qc (Qa (Qj Z Z) (Qa (Qh Z Z) (Qm (Qd ?_)))))
 have ab' : a = b := by omega
 have ed : del l a b = l := by rw [← ab']; exact List.take_append_drop a l
 rw [ed]
 exact Ja (ds := [.own βl 3 0 l.length]) Try.results59 (Qs (ResD.le (Qw Z) (DLe.exact hE)) (Qz)) (Qk _ _ _ _ _ Qp (Ql _)) ⟨βl, Z, Z⟩
 refine Ji (Qd ?_)
 have m0 : 0 < m := by omega
 refine Qi (Qc (Qa (Qj Z Z) (Qa (ps_len Z (by constructor) Z) ?_)))
 refine Qa (Qh Z Z) (Qm (Qd (Qi (GoC.drawP (.q 0 (.q 1 (.q 2 (.q 3 (.q 4 (.q 5 (.one 6 (.q 7 (.done))))))))) [] follows (by kernel_rfl) (Ql _) ?_))))
 iterate 2 refine Qx Z (Qj Z Z) ?_
 refine Qx Z (ps_sliceTo hE Z Z (by omega) Z) ?_
 iterate 2 refine Qx Z (Qj Z Z) ?_
 refine Qx Z (ps_sliceOff hE Z Z (Bd.no _) bl lm Z) (GoP.one1 Z Qq (ef_appendIn (hE.cut (show a ≤ m by omega)) Z Z Qy (cat_del (α := Arc) (xs := l) (i := a) (j := b) (by omega)) (by simp only [row_len]; omega) (by simp only [row_len]; omega) (by omega) m0 (by omega) (by decide) Z) (Qk _ _ _ _ _ Qp (Ql _)) ?_)
 refine Qx Z (Qh Z Z) (GoP.done (Qd (Qi (Qc ?_))))
 iterate 2 refine Qa (Qj Z Z) ?_
 refine Qa (ps_len Z (by constructor) Z) ?_
 refine Qa (Qj Z Z) (Qa (ps_sliceOff (hE.cut (show a + (l.length - b) ≤ m by omega)) Z Z (Bd.nat _ _ l.length _ Z) (by omega) lm Z) ?_)
 refine GoO.eff1 (ef_clear Z Qy (by simp only [row_len]; omega) (by decide)) ?_
 refine Qm (Qd (Qi (Qc (Qa (Qj Z Z) (Qa (Qh Z Z) (Qm (Qd ?_)))))))
 have hE2 := hE.cut (show a + (l.length - b) ≤ m by omega)
 rw [← dl] at hE2
 exact Ja (ds := [.own βl 3 0 (del l a b).length]) Try.results59 (Qs (ResD.le (Qw Z) (by rw [← dl]; exact DLe.exact hE2)) (Qz)) (Qk _ _ _ _ _ Qp (Ql _)) ⟨βl, Z, Z⟩
theorem slices_Delete_int_I (out : (List Int)) (βl : BK) : IndepP (slices_Delete_int_P out βl) := IndepP.of (by rintro _ _ ⟨β1, rfl, rfl⟩; exact ⟨inferInstance, inferInstance⟩)
theorem slices_Delete_int_spec (l : (List Int)) (i j : Int) (βl : BK) {out : (List Int)} (H : slices_Delete_int_F l i j = some out) : Does Try.prog 60 [.own βl 1 0 l.length, .v (.int .i64 i), .v (.int .i64 j)] [.one βl 3 1 (row l)] (slices_Delete_int_P out βl) := by
 unfold slices_Delete_int_F at H
 have c1 := ck_l H; replace H := ck_r H
 have c2 := ck_l H; replace H := ck_r H
 have c3 := ck_l H; replace H := ck_r H
 have c4 := ck_l H; replace H := ck_r H
 obtain rfl := Qg H
 obtain ⟨a, rfl⟩ := Int.eq_ofNat_of_zero_le c1
 obtain ⟨b, rfl⟩ := Int.eq_ofNat_of_zero_le (Int.le_trans c1 c2)
 simp only [Int.ofNat_eq_natCast, Int.toNat_natCast] at *
 have ab : a ≤ b := by omega
 have bl : b ≤ l.length := by omega
 have dl : (del l a b).length = a + (l.length - b) := del_length (by omega)
 refine Does.intro Try.func60 Z Try.ntmps60 Z fun w0 I0 tb0 => ?_
 refine Qi (Qc (Qa (Qh Z Z) (Qm (Qd (GoC.exactJ 0 Z fun ad m hE => ?_)))))
 have lm := hE.le
 refine Qi (Qc ?_)
 iterate 4 refine Qa (Qj Z Z) ?_
 refine Qa (ps_len Z (by constructor) Z) ?_
 refine Qa (ps_slice3J Z Z Z Z ab bl lm Z) (Qm (Qd (Qi (Qi (Qc ?_)))))
 iterate 2 refine Qa (Qj Z Z) ?_
 refine Qa (ps_eql Z Z Z) (Qm (Qd (Jf Z (fun (hc : (a : Int) = (b : Int)) => ?_) (fun (hc : ¬ (a : Int) = (b : Int)) => ?_))))
 refine Qi (Qc (Qa (Qj Z Z) (Qa (Qh Z Z) (Qm (Qd ?_)))))
 have ab' : a = b := by omega
 have ed : del l a b = l := by rw [← ab']; exact List.take_append_drop a l
 rw [ed]
 exact Ja (ds := [.own βl 1 0 l.length]) Try.results60 (Qs (ResD.le (Qw Z) (DLe.exact hE)) (Qz)) (Qk _ _ _ _ _ Qp (Ql _)) ⟨βl, Z, Z⟩
 refine Ji (Qd ?_)
 have m0 : 0 < m := by omega
 refine Qi (Qc (Qa (Qj Z Z) (Qa (ps_len Z (by constructor) Z) ?_)))
 refine Qa (Qh Z Z) (Qm (Qd (Qi (GoC.drawP (.q 0 (.q 1 (.q 2 (.q 3 (.q 4 (.q 5 (.one 6 (.q 7 (.done))))))))) [] follows (by kernel_rfl) (Ql _) ?_))))
 iterate 2 refine Qx Z (Qj Z Z) ?_
 refine Qx Z (ps_sliceTo hE Z Z (by omega) Z) ?_
 iterate 2 refine Qx Z (Qj Z Z) ?_
 refine Qx Z (ps_sliceOff hE Z Z (Bd.no _) bl lm Z) (GoP.one1 Z Qq (ef_appendIn (hE.cut (show a ≤ m by omega)) Z Z Qy (cat_del (α := Int) (xs := l) (i := a) (j := b) (by omega)) (by simp only [row_len]; omega) (by simp only [row_len]; omega) (by omega) m0 (by omega) (by decide) Z) (Qk _ _ _ _ _ Qp (Ql _)) ?_)
 refine Qx Z (Qh Z Z) (GoP.done (Qd (Qi (Qc ?_))))
 iterate 2 refine Qa (Qj Z Z) ?_
 refine Qa (ps_len Z (by constructor) Z) ?_
 refine Qa (Qj Z Z) (Qa (ps_sliceOff (hE.cut (show a + (l.length - b) ≤ m by omega)) Z Z (Bd.nat _ _ l.length _ Z) (by omega) lm Z) ?_)
 refine GoO.eff1 (ef_clear Z Qy (by simp only [row_len]; omega) (by decide)) ?_
 refine Qm (Qd (Qi (Qc (Qa (Qj Z Z) (Qa (Qh Z Z) (Qm (Qd ?_)))))))
 have hE2 := hE.cut (show a + (l.length - b) ≤ m by omega)
 rw [← dl] at hE2
 exact Ja (ds := [.own βl 1 0 (del l a b).length]) Try.results60 (Qs (ResD.le (Qw Z) (by rw [← dl]; exact DLe.exact hE2)) (Qz)) (Qk _ _ _ _ _ Qp (Ql _)) ⟨βl, Z, Z⟩
theorem slices_Index_string_I (out : Int) : IndepP (slices_Index_string_P out) := IndepP.of (by rintro _ _ ⟨rfl, rfl⟩; exact ⟨inferInstance, inferInstance⟩)
theorem slices_Index_string_spec (s_ : (List ByteArray)) (v_ : ByteArray) {out : Int} (H : slices_Index_string_F s_ v_ = some out) : Does Try.prog 62 [slD s_, .v (.string v_)] [] (slices_Index_string_P out) := by
 unfold slices_Index_string_F at H
 refine Does.intro Try.func62 Z Try.ntmps62 Z fun w0 I0 tb0 => ?_
 refine Qi (Qc (Qa (Qh Z Z) (Qm (Qd (Qi (Qi (Qc (Qa (Qj Z Z) (Qa (ps_len Z (by constructor) Z) ?_)))))))))
 refine GoO.lenLe (n := s_.length) (x := .tmp 6) Z (by constructor) sl_lenLe (fun ml1 => ?_)
 refine Qa (Qj Z Z) (Qm (Qd ?_))
 have hb := bind_l H; clear H
 obtain ⟨q4, hl8, HK2⟩ := hb
 refine GoC.blockJ [] [] (fun v h => q4 = .go () ∧ v = [] ∧ h = []) ?_ ?_
 refine GoC.loopJ [(0, _), (1, _), (7, _)] [] (fun mQ v h => ∃ (k5 : Nat), (k5 + mQ = s_.length ∧ forC (slices_Index_string_B1 s_ v_) mQ k5 () = some q4) ∧ v = [(8, .v (.int .i64 ((k5 : Nat) : Int)))] ∧ h = []) s_.length ⟨_, ⟨by omega, hl8⟩, Z, Z⟩ (Qe Z (Qe Z (Qe Z (Qe Z (Jc))))) (Jg _) ?_
 rintro m6 v h ⟨k5, ⟨hkk5, hF3⟩, rfl, rfl⟩
 refine Qi (Qc (Qa (ps_lss Z Z Z) (Qm (Qd (Qi (Jf Z (fun (hk5 : (k5 : Int) < ((s_.length : Nat) : Int)) => ?_) (fun (hk5 : ¬ (k5 : Int) < ((s_.length : Nat) : Int)) => ?_)))))))
 obtain ⟨m6', rfl⟩ : ∃ x, m6 = x + 1 := ⟨m6 - 1, by omega⟩
 have hb := bind_l hF3; clear hF3
 obtain ⟨qrm6, H, hF3⟩ := hb
 have hnk5 : k5 < s_.length := by omega
 have hIk5 : InI ((k5 : Int) + 1) := inI_len hk5 ml1
 refine Ji (Qd (Qi (GoC.block (Qi (Qc (Qa (Qj Z Z) (Qa (Qh Z Z) (Qm (Qd (Qi (Qc ?_)))))))))))
 iterate 3 refine Qa (Qj Z Z) ?_
 refine Qa (Jn Z Z hnk5 Z) (Qa (ps_loadR Z hnk5 Z Z) (Qa (ps_eqlStr Z Z Z) (Qm (Qd (Jf Z (fun h7 => ?_) (fun h7 => ?_))))))
 replace H := ite_t h7 H
 refine Qi (Qc (Qa (Qj Z Z) (Qa (Qh Z Z) (Qm (Qd ?_)))))
 obtain rfl := Qg H
 obtain rfl := Qg hF3
 obtain rfl := Qg HK2
 exact Ja (ds := [.v (.int .i64 ((k5 : Nat) : Int))]) Try.results62 (Qs (Qw Z) (Qz)) (Ql _) ⟨Z, Z⟩
 replace H := ite_f h7 H
 refine Ji (GoK.blk (Qd (Qc (Qa (ps_add Z Z Z hIk5) (Qa (Qj Z Z) (Qm ?_))))))
 obtain rfl := Qg H
 exact GoK.againJ m6' (by omega) ⟨_, ⟨by omega, hF3⟩, Z, Z⟩ (Qe Z (Qe Z (Qe Z (Qe Z (Jc))))) (Jg _)
 obtain rfl : m6 = 0 := by omega
 refine GoC.exit Z ?_
 cases hF3
 exact GoK.meet ⟨Z, Z, Z⟩ (Jc) (Jg _)
 rintro v h ⟨rfl, rfl, rfl⟩
 have H := HK2; clear HK2
 refine Qd (Qi (Qc (Qa (Qh Z Z) (Qm (Qd ?_)))))
 obtain rfl := Qg H
 exact Ja (ds := [.v (.int .i64 (-1))]) Try.results62 (Qs (Qw Z) (Qz)) (Ql _) ⟨Z, Z⟩
theorem weirkeep_sameNet_I (out : Bool) : IndepP (weirkeep_sameNet_P out) := IndepP.of (by rintro _ _ ⟨rfl, rfl⟩; exact ⟨inferInstance, inferInstance⟩)
theorem weirkeep_sameNet_spec (a : Net) (b : Net) {out : Bool} (H : weirkeep_sameNet_F a b = some out) : Does Try.prog 7 [.ag 4 (nth [.v (.int .i64 a.n), .v (.int .i64 a.s), .v (.int .i64 a.t), slD a.as]), .ag 4 (nth [.v (.int .i64 b.n), .v (.int .i64 b.s), .v (.int .i64 b.t), slD b.as])] [] (weirkeep_sameNet_P out) := by
 unfold weirkeep_sameNet_F at H
 refine Does.intro Try.func7 Z Try.ntmps7 Z fun w0 I0 tb0 => ?_
 refine Qi (Qc (Jm (ef_boxAg Z Z) (fun β1 => ?_)))
 refine Jm (ef_boxAg Z Z) (fun β2 => ?_)
 refine Qa (Qh Z Z) (Qm (Qd (Qi (Qc (Qa (Qr Z Z) (Qa (Jd Z Js Js Qf Z Z) (Qa (Qr Z Z) (Qa (Jd Z Qy Qy Qf Z Z) ?_))))))))
 refine Qa (ps_eql Z Z Z) (Qa (Qj Z Z) (GoO.guardD Z Z Z Z (fun h3 => ?_) (fun h3 => ?_)))
 replace H := ite_t h3 H
 refine Qa (Qr Z Z) (Je Z Z Z (Qa (Jd Z Js Js Qf Z Z) (Je Z Z Z (Qa (Qr Z Z) (Je Z Z Z ?_)))))
 refine Qa (Jd Z Qy Qy Qf Z Z) (Je Z Z Z (Qa (ps_eql Z Z Z) (Qa (ps_pickT Z Z Z) (Qa (Qj Z Z) (GoO.guardD Z Z Z Z (fun h4 => ?_) (fun h4 => ?_))))))
 replace H := ite_t h4 H
 refine Qa (Qr Z Z) (Je Z Z Z (Qa (Jd Z Js Js Qf Z Z) (Je Z Z Z (Qa (Qr Z Z) (Je Z Z Z ?_)))))
 refine Qa (Jd Z Qy Qy Qf Z Z) (Je Z Z Z (Qa (ps_eql Z Z Z) (Qa (ps_pickT Z Z Z) (Qa (Qj Z Z) (GoO.guardD Z Z Z Z (fun h5 => ?_) (fun h5 => ?_))))))
 replace H := ite_t h5 H
 refine Qa (Qr Z Z) (Je Z Z Z (Qa (Jd Z Js Js Qf Z Z) (Je Z Z Z (Qa (Qr Z Z) (Je Z Z Z ?_)))))
 refine Qa (Jd Z Qy Qy Qf Z Z) (Je Z Z Z ?_)
 have hb := bind_l H; clear H
 obtain ⟨r6, e7, H⟩ := hb
 refine GoO.effC (ef_call Z (Ql _) (Ql _) (slices_Equal_Arc_spec a.as b.as e7) (Qt (Qo _ _) (Qt (Qo _ _) (Jj))) Z (slices_Equal_Arc_I (r6))) (fun rr HH hp => ?_)
 obtain ⟨rfl, rfl⟩ := hp
 refine Qa (ps_pickT Z Z Z) (Qa (Qh Z Z) (Qm (Qd ?_)))
 obtain rfl := Qg H
 exact Ja (ds := [.v (.bool r6)]) Try.results7 (Qs (Qw Z) (Qz)) (Ql _) ⟨Z, Z⟩
 replace H := ite_f h5 H
 iterate 4 refine Qv Z Z Z Z ?_
 refine Qa (ps_pickF Z Z Z) (Qa (Qh Z Z) (Qm (Qd ?_)))
 obtain rfl := Qg H
 exact Ja (ds := [.v (.bool false)]) Try.results7 (Qs (Qw Z) (Qz)) (Ql _) ⟨Z, Z⟩
 replace H := ite_f h4 H
 iterate 4 refine Qv Z Z Z Z ?_
 refine Qa (ps_pickF Z Z Z) (Qa (Qj Z Z) ?_)
 iterate 5 refine Qv Z Z Z Z ?_
 refine Qa (ps_pickF Z Z Z) (Qa (Qh Z Z) (Qm (Qd ?_)))
 obtain rfl := Qg H
 exact Ja (ds := [.v (.bool false)]) Try.results7 (Qs (Qw Z) (Qz)) (Ql _) ⟨Z, Z⟩
 replace H := ite_f h3 H
 iterate 4 refine Qv Z Z Z Z ?_
 refine Qa (ps_pickF Z Z Z) (Qa (Qj Z Z) ?_)
 iterate 5 refine Qv Z Z Z Z ?_
 refine Qa (ps_pickF Z Z Z) (Qa (Qj Z Z) ?_)
 iterate 5 refine Qv Z Z Z Z ?_
 refine Qa (ps_pickF Z Z Z) (Qa (Qh Z Z) (Qm (Qd ?_)))
 obtain rfl := Qg H
 exact Ja (ds := [.v (.bool false)]) Try.results7 (Qs (Qw Z) (Qz)) (Ql _) ⟨Z, Z⟩
theorem weirref_Rest_I (out : Int) : IndepP (weirref_Rest_P out) := IndepP.of (by rintro _ _ ⟨rfl, rfl⟩; exact ⟨inferInstance, inferInstance⟩)
theorem weirref_Rest_spec (n : Int) (m : Int) {out : Int} (H : weirref_Rest_F n m = some out) : Does Try.prog 8 [.v (.int .i64 n), .v (.int .i64 m)] [] (weirref_Rest_P out) := by
 unfold weirref_Rest_F at H
 refine Does.intro Try.func8 Z Try.ntmps8 Z fun w0 I0 tb0 => ?_
 refine Qi (Qc (Qa (Qh Z Z) (Qm (Qd (Qi (Qc ?_))))))
 iterate 2 refine Qa (Qj Z Z) ?_
 have c1 := ck_l H; replace H := ck_r H
 refine Qa (ps_rem Z Z Z c1) (Qa (Qh Z Z) (Qm (Qd (Qi (Qi (Qc (Qa (Qj Z Z) (Qa (ps_lss Z Z Z) (Qm (Qd ?_))))))))))
 refine Jf Z (fun h2 => ?_) (fun h2 => ?_)
 replace H := ite_t h2 H
 refine Qc ?_
 iterate 2 refine Qa (Qj Z Z) ?_
 have c3 := ck_l H; replace H := ck_r H
 refine Qa (ps_add Z Z Z c3) (Qa (Qh Z Z) (Qm (Qd (Qi (Qc (Qa (Qj Z Z) (Qa (Qh Z Z) (Qm (Qd ?_)))))))))
 obtain rfl := Qg H
 exact Ja (ds := [.v (.int .i64 ((Int.tmod n m) + m))]) Try.results8 (Qs (Qw Z) (Qz)) (Ql _) ⟨Z, Z⟩
 replace H := ite_f h2 H
 refine Ji (Qd (Qi (Qc (Qa (Qj Z Z) (Qa (Qh Z Z) (Qm (Qd ?_)))))))
 obtain rfl := Qg H
 exact Ja (ds := [.v (.int .i64 (Int.tmod n m))]) Try.results8 (Qs (Qw Z) (Qz)) (Ql _) ⟨Z, Z⟩
theorem graph_check_I (out : Int) : IndepP (graph_check_P out) := IndepP.of (by rintro _ _ ⟨rfl, rfl⟩; exact ⟨inferInstance, inferInstance⟩)
theorem graph_check_spec (g : Graph) (least : Int) {out : Int} (H : graph_check_F g least = some out) : Does Try.prog 65 [.ag 2 (nth [.v (.int .i64 g.n), slD g.as]), .v (.int .i64 least)] [] (graph_check_P out) := by
 unfold graph_check_F at H
 refine Does.intro Try.func65 Z Try.ntmps65 Z fun w0 I0 tb0 => ?_
 refine Qi (Qc (Jm (ef_boxAg Z Z) (fun β1 => ?_)))
 refine Qa (Qh Z Z) (Qm (Qd (Qi (Qi (Qc (Qa (Qr Z Z) (Qa (Jd Z Qy Qy Qf Z Z) (Qa (ps_lss Z Z Z) (Qa (Qj Z Z) ?_)))))))))
 refine GoO.guardE Z Z Z Z (fun h2 => ?_) (fun h2 => ?_)
 replace H := ite_f h2 H
 refine Qa (Qr Z Z) (Je Z Z Z (Qa (Jd Z Qy Qy Qf Z Z) (Je Z Z Z (Qa (ps_gtr Z Z Z) (Qa (ps_pickF Z Z Z) ?_)))))
 refine Qm (Qd (Jf Z (fun h3 => ?_) (fun h3 => ?_)))
 replace H := ite_t h3 H
 refine Qi (Qc (Qa (Qh Z Z) (Qm (Qd ?_))))
 obtain rfl := Qg H
 exact Ja (ds := [.v (.int .i64 1)]) Try.results65 (Qs (Qw Z) (Qz)) (Ql _) ⟨Z, Z⟩
 replace H := ite_f h3 H
 refine Ji (Qd (Qi (Qi (Qc (Qa (Qr Z Z) (Qa (Jd Z Qy Qy Qf Z Z) (Qa (ps_len Z (by constructor) Z) ?_)))))))
 refine GoO.lenLe (n := g.as.length) (x := .tmp 16) Z (by constructor) sl_lenLe (fun ml4 => ?_)
 refine Qa (ps_gtr Z Z Z) (Qm (Qd (Jf Z (fun h5 => ?_) (fun h5 => ?_))))
 replace H := ite_t h5 H
 refine Qi (Qc (Qa (Qh Z Z) (Qm (Qd ?_))))
 obtain rfl := Qg H
 exact Ja (ds := [.v (.int .i64 2)]) Try.results65 (Qs (Qw Z) (Qz)) (Ql _) ⟨Z, Z⟩
 replace H := ite_f h5 H
 refine Ji (Qd (Qi (Qi (Qc (Qa (Qr Z Z) (Qa (Jd Z Qy Qy Qf Z Z) (Qa (ps_len Z (by constructor) Z) ?_)))))))
 refine Qa (Qj Z Z) (Qm (Qd ?_))
 have hb := bind_l H; clear H
 obtain ⟨q8, hl18, HK6⟩ := hb
 refine GoC.blockJ [] [.one β1 106 2 (st1 (nth [.v (.int .i64 g.n), slD g.as]))] (fun v h => q8 = .go () ∧ v = [] ∧ h = []) ?_ ?_
 refine GoC.loopJ [(1, _), (2, _), (20, _), (21, _)] [.one β1 106 2 (st1 (nth [.v (.int .i64 g.n), slD g.as]))] (fun mQ v h => ∃ (k9 : Nat), (k9 + mQ = g.as.length ∧ forC (graph_check_B1 g least) mQ k9 () = some q8) ∧ v = [(22, .v (.int .i64 ((k9 : Nat) : Int)))] ∧ h = []) g.as.length ⟨_, ⟨by omega, hl18⟩, Z, Z⟩ (Qe Z (Qe Z (Qe Z (Qe Z (Qe Z (Jc)))))) (Qn _ _ _ _ _ Qp (Jh ⟨⟨Qq, Qb _⟩, Qb _⟩) (Jg _)) ?_
 rintro m10 v h ⟨k9, ⟨hkk9, hF7⟩, rfl, rfl⟩
 refine Qi (Qc (Qa (ps_lss Z Z Z) (Qm (Qd (Qi (Jf Z (fun (hk9 : (k9 : Int) < ((g.as.length : Nat) : Int)) => ?_) (fun (hk9 : ¬ (k9 : Int) < ((g.as.length : Nat) : Int)) => ?_)))))))
 obtain ⟨m10', rfl⟩ : ∃ x, m10 = x + 1 := ⟨m10 - 1, by omega⟩
 have hb := bind_l hF7; clear hF7
 obtain ⟨qrm10, H, hF7⟩ := hb
 have hnk9 : k9 < g.as.length := by omega
 have hIk9 : InI ((k9 : Int) + 1) := inI_len hk9 ml4
 refine Ji (Qd (Qi (GoC.block (Qi (Qc (Qa (Jn Z Z hnk9 Z) (Qa (ps_loadAgR Z hnk9 Z Z) (Jm (ef_alloc Z) (fun β11 => ?_)))))))))
 refine GoO.eff1 (ef_storeAg Z Z Qy upd_whole Qf Z) (Qm (Qd (Qi (Qi (Qc (Qa (Qr Z Z) (Qa (Jd Z Qy Qy Qf Z Z) (Qa (ps_lss Z Z Z) (Qa (Qj Z Z) ?_)))))))))
 refine GoO.guardE Z Z Z Z (fun h12 => ?_) (fun h12 => ?_)
 replace H := ite_f h12 H
 refine Qa (Qr Z Z) (Je Z Z Z (Qa (Jd Z Qy Qy Qf Z Z) (Je Z Z Z (Qa (Qr Z Z) (Je Z Z Z ?_)))))
 refine Qa (Jd Z Js Js Qf Z Z) (Je Z Z Z (Qa (ps_geq Z Z Z) (Qa (ps_pickF Z Z Z) (Qa (Qj Z Z) (GoO.guardE Z Z Z Z (fun h13 => ?_) (fun h13 => ?_))))))
 replace H := ite_f h13 H
 refine Qa (Qr Z Z) (Je Z Z Z (Qa (Jd Z Qy Qy Qf Z Z) (Je Z Z Z (Qa (ps_lss Z Z Z) (Qa (ps_pickF Z Z Z) ?_)))))
 refine Qa (Qj Z Z) (GoO.guardE Z Z Z Z (fun h14 => ?_) (fun h14 => ?_))
 replace H := ite_f h14 H
 refine Qa (Qr Z Z) (Je Z Z Z (Qa (Jd Z Qy Qy Qf Z Z) (Je Z Z Z (Qa (Qr Z Z) (Je Z Z Z ?_)))))
 refine Qa (Jd Z Js Js Qf Z Z) (Je Z Z Z (Qa (ps_geq Z Z Z) (Qa (ps_pickF Z Z Z) (Qm (Qd (Jf Z (fun h15 => ?_) (fun h15 => ?_)))))))
 replace H := ite_t h15 H
 refine Qi (Qc (Qa (Qh Z Z) (Qm (Qd ?_))))
 obtain rfl := Qg H
 obtain rfl := Qg hF7
 obtain rfl := Qg HK6
 exact Ja (ds := [.v (.int .i64 4)]) Try.results65 (Qs (Qw Z) (Qz)) (Ql _) ⟨Z, Z⟩
 replace H := ite_f h15 H
 refine Ji (Qd (Qi (Qc (Qa (Qr Z Z) (Qa (Jd Z Qy Qy Qf Z Z) (Qa (Qj Z Z) (Qa (ps_lss Z Z Z) (Qa (Qj Z Z) ?_))))))))
 refine GoO.guardE Z Z Z Z (fun h16 => ?_) (fun h16 => ?_)
 replace H := ite_f h16 H
 refine Qa (Qr Z Z) (Je Z Z Z (Qa (Jd Z Qy Qy Qf Z Z) (Je Z Z Z (Qa (ps_gtr Z Z Z) (Qa (ps_pickF Z Z Z) ?_)))))
 refine Qm (Qd (Jf Z (fun h17 => ?_) (fun h17 => ?_)))
 replace H := ite_t h17 H
 refine Qi (Qc (Qa (Qh Z Z) (Qm (Qd ?_))))
 obtain rfl := Qg H
 obtain rfl := Qg hF7
 obtain rfl := Qg HK6
 exact Ja (ds := [.v (.int .i64 1)]) Try.results65 (Qs (Qw Z) (Qz)) (Ql _) ⟨Z, Z⟩
 replace H := ite_f h17 H
 refine Ji (GoK.blk (Qd (Qc (Qa (ps_add Z Z Z hIk9) (Qa (Qj Z Z) (Qm ?_))))))
 obtain rfl := Qg H
 exact GoK.againJ m10' (by omega) ⟨_, ⟨by omega, hF7⟩, Z, Z⟩ (Qe Z (Qe Z (Qe Z (Qe Z (Qe Z (Jc)))))) (Qn _ _ _ _ _ Jk (Jh ⟨⟨Qq, Qb _⟩, Qb _⟩) (Jg _))
 replace H := ite_t h16 H
 iterate 2 refine Qv Z Z Z Z ?_
 refine Qa (ps_pickT Z Z Z) (Qm (Qd (GoC.condT Z (Qi (Qc (Qa (Qh Z Z) (Qm (Qd ?_))))))))
 obtain rfl := Qg H
 obtain rfl := Qg hF7
 obtain rfl := Qg HK6
 exact Ja (ds := [.v (.int .i64 1)]) Try.results65 (Qs (Qw Z) (Qz)) (Ql _) ⟨Z, Z⟩
 replace H := ite_t h14 H
 iterate 4 refine Qv Z Z Z Z ?_
 refine Qa (ps_pickT Z Z Z) (Qm (Qd (GoC.condT Z (Qi (Qc (Qa (Qh Z Z) (Qm (Qd ?_))))))))
 obtain rfl := Qg H
 obtain rfl := Qg hF7
 obtain rfl := Qg HK6
 exact Ja (ds := [.v (.int .i64 4)]) Try.results65 (Qs (Qw Z) (Qz)) (Ql _) ⟨Z, Z⟩
 replace H := ite_t h13 H
 iterate 2 refine Qv Z Z Z Z ?_
 refine Qa (ps_pickT Z Z Z) (Qa (Qj Z Z) ?_)
 iterate 5 refine Qv Z Z Z Z ?_
 refine Qa (ps_pickT Z Z Z) (Qm (Qd (GoC.condT Z (Qi (Qc (Qa (Qh Z Z) (Qm (Qd ?_))))))))
 obtain rfl := Qg H
 obtain rfl := Qg hF7
 obtain rfl := Qg HK6
 exact Ja (ds := [.v (.int .i64 4)]) Try.results65 (Qs (Qw Z) (Qz)) (Ql _) ⟨Z, Z⟩
 replace H := ite_t h12 H
 iterate 4 refine Qv Z Z Z Z ?_
 refine Qa (ps_pickT Z Z Z) (Qa (Qj Z Z) ?_)
 iterate 3 refine Qv Z Z Z Z ?_
 refine Qa (ps_pickT Z Z Z) (Qa (Qj Z Z) ?_)
 iterate 5 refine Qv Z Z Z Z ?_
 refine Qa (ps_pickT Z Z Z) (Qm (Qd (GoC.condT Z (Qi (Qc (Qa (Qh Z Z) (Qm (Qd ?_))))))))
 obtain rfl := Qg H
 obtain rfl := Qg hF7
 obtain rfl := Qg HK6
 exact Ja (ds := [.v (.int .i64 4)]) Try.results65 (Qs (Qw Z) (Qz)) (Ql _) ⟨Z, Z⟩
 obtain rfl : m10 = 0 := by omega
 refine GoC.exit Z ?_
 cases hF7
 exact GoK.meet ⟨Z, Z, Z⟩ (Jc) (Qn _ _ _ _ _ Qp (Jh ⟨⟨Qq, Qb _⟩, Qb _⟩) (Jg _))
 rintro v h ⟨rfl, rfl, rfl⟩
 have H := HK6; clear HK6
 refine Qd (Qi (Qc (Qa (Qh Z Z) (Qm (Qd ?_)))))
 obtain rfl := Qg H
 exact Ja (ds := [.v (.int .i64 0)]) Try.results65 (Qs (Qw Z) (Qz)) (Ql _) ⟨Z, Z⟩
 replace H := ite_t h2 H
 iterate 2 refine Qv Z Z Z Z ?_
 refine Qa (ps_pickT Z Z Z) (Qm (Qd (GoC.condT Z (Qi (Qc (Qa (Qh Z Z) (Qm (Qd ?_))))))))
 obtain rfl := Qg H
 exact Ja (ds := [.v (.int .i64 1)]) Try.results65 (Qs (Qw Z) (Qz)) (Ql _) ⟨Z, Z⟩
theorem graph_Check_I (out : Int) : IndepP (graph_Check_P out) := IndepP.of (by rintro _ _ ⟨rfl, rfl⟩; exact ⟨inferInstance, inferInstance⟩)
theorem graph_Check_spec (g : Graph) {out : Int} (H : graph_Check_F g = some out) : Does Try.prog 52 [.ag 2 (nth [.v (.int .i64 g.n), slD g.as])] [] (graph_Check_P out) := by
 unfold graph_Check_F at H
 refine Does.intro Try.func52 Z Try.ntmps52 Z fun w0 I0 tb0 => ?_
 refine Qi (Qc (Jm (ef_boxAg Z Z) (fun β1 => ?_)))
 refine Qa (Qh Z Z) (Qm (Qd (Qi (Qc (Qa (Jr Z Qy Qy Qf Z Z) ?_)))))
 have hb := bind_l H; clear H
 obtain ⟨r2, e3, H⟩ := hb
 refine GoO.effC (ef_call Z (Ql _) (Ql _) (graph_check_spec g 0 e3) (Qt (Lend.agA ⟨⟨Qq, Qo _ _⟩, Qo _ _⟩) (Qt (Qo _ _) (Jj))) Z (graph_check_I (r2))) (fun rr HH hp => ?_)
 obtain ⟨rfl, rfl⟩ := hp
 refine Qa (Qh Z Z) (Qm (Qd ?_))
 obtain rfl := Qg H
 exact Ja (ds := [.v (.int .i64 r2)]) Try.results52 (Qs (Qw Z) (Qz)) (Ql _) ⟨Z, Z⟩
theorem graph_CheckNet_I (out : Int) : IndepP (graph_CheckNet_P out) := IndepP.of (by rintro _ _ ⟨rfl, rfl⟩; exact ⟨inferInstance, inferInstance⟩)
theorem graph_CheckNet_spec (n : Net) {out : Int} (H : graph_CheckNet_F n = some out) : Does Try.prog 41 [.ag 4 (nth [.v (.int .i64 n.n), .v (.int .i64 n.s), .v (.int .i64 n.t), slD n.as])] [] (graph_CheckNet_P out) := by
 unfold graph_CheckNet_F at H
 refine Does.intro Try.func41 Z Try.ntmps41 Z fun w0 I0 tb0 => ?_
 refine Qi (Qc (Jm (ef_boxAg Z Z) (fun β1 => ?_)))
 refine Qa (Qh Z Z) (Qm (Qd (Qi (Qi (Qc (Qa (Qr Z Z) (Qa (Jd Z Qy Qy Qf Z Z) (Qa (Qr Z Z) (Qa (Jd Z Qy Qy Qf Z Z) ?_)))))))))
 refine Qa (ps_build (Jl _ _ _ _ _ _ _ _ FdP.of (Part.one _ Z Z) Z Z (Jl _ _ _ _ _ _ _ _ FdP.of (Part.one _ Z Z) Z Z (Parts.nil _))) Z) ?_
 have hb := bind_l H; clear H
 obtain ⟨r2, e3, H⟩ := hb
 refine GoO.effC (ef_call Z (Ql _) (Ql _) (graph_Check_spec (⟨n.n, n.as⟩ : Graph) e3) (Qt (Lend.agA ⟨⟨Qq, Qo _ _⟩, Qo _ _⟩) (Jj)) Z (graph_Check_I (r2))) (fun rr HH hp => ?_)
 obtain ⟨rfl, rfl⟩ := hp
 refine Qa (Qh Z Z) (Qm (Qd (Qi (Qc (Qa (Qj Z Z) (Qa (ps_neq Z Z Z) (Qm (Qd (Jf Z (fun h4 => ?_) (fun h4 => ?_))))))))))
 replace H := ite_t h4 H
 refine Qi (Qc (Qa (Qj Z Z) (Qa (Qh Z Z) (Qm (Qd ?_)))))
 obtain rfl := Qg H
 exact Ja (ds := [.v (.int .i64 r2)]) Try.results41 (Qs (Qw Z) (Qz)) (Ql _) ⟨Z, Z⟩
 replace H := ite_f h4 H
 refine Ji (Qd (Qi (Qi (Qc (Qa (Qr Z Z) (Qa (Jd Z Qy Qy Qf Z Z) (Qa (ps_lss Z Z Z) (Qa (Qj Z Z) (GoO.guardE Z Z Z Z (fun h5 => ?_) (fun h5 => ?_))))))))))
 replace H := ite_f h5 H
 refine Qa (Qr Z Z) (Je Z Z Z (Qa (Jd Z Qy Qy Qf Z Z) (Je Z Z Z (Qa (Qr Z Z) (Je Z Z Z ?_)))))
 refine Qa (Jd Z Qy Qy Qf Z Z) (Je Z Z Z (Qa (ps_geq Z Z Z) (Qa (ps_pickF Z Z Z) (Qa (Qj Z Z) (GoO.guardE Z Z Z Z (fun h6 => ?_) (fun h6 => ?_))))))
 replace H := ite_f h6 H
 refine Qa (Qr Z Z) (Je Z Z Z (Qa (Jd Z Qy Qy Qf Z Z) (Je Z Z Z (Qa (ps_lss Z Z Z) (Qa (ps_pickF Z Z Z) ?_)))))
 refine Qa (Qj Z Z) (GoO.guardE Z Z Z Z (fun h7 => ?_) (fun h7 => ?_))
 replace H := ite_f h7 H
 refine Qa (Qr Z Z) (Je Z Z Z (Qa (Jd Z Qy Qy Qf Z Z) (Je Z Z Z (Qa (Qr Z Z) (Je Z Z Z ?_)))))
 refine Qa (Jd Z Qy Qy Qf Z Z) (Je Z Z Z (Qa (ps_geq Z Z Z) (Qa (ps_pickF Z Z Z) (Qm (Qd (Jf Z (fun h8 => ?_) (fun h8 => ?_)))))))
 replace H := ite_t h8 H
 refine Qi (Qc (Qa (Qh Z Z) (Qm (Qd ?_))))
 obtain rfl := Qg H
 exact Ja (ds := [.v (.int .i64 4)]) Try.results41 (Qs (Qw Z) (Qz)) (Ql _) ⟨Z, Z⟩
 replace H := ite_f h8 H
 refine Ji (Qd (Qi (Qi (Qc (Qa (Qr Z Z) (Qa (Jd Z Qy Qy Qf Z Z) (Qa (Qr Z Z) (Qa (Jd Z Qy Qy Qf Z Z) (Qa (ps_eql Z Z Z) ?_)))))))))
 refine Qm (Qd (Jf Z (fun h9 => ?_) (fun h9 => ?_)))
 replace H := ite_t h9 H
 refine Qi (Qc (Qa (Qh Z Z) (Qm (Qd ?_))))
 obtain rfl := Qg H
 exact Ja (ds := [.v (.int .i64 3)]) Try.results41 (Qs (Qw Z) (Qz)) (Ql _) ⟨Z, Z⟩
 replace H := ite_f h9 H
 refine Ji (Qd (Qi (Qc (Qa (Qh Z Z) (Qm (Qd ?_))))))
 obtain rfl := Qg H
 exact Ja (ds := [.v (.int .i64 0)]) Try.results41 (Qs (Qw Z) (Qz)) (Ql _) ⟨Z, Z⟩
 replace H := ite_t h7 H
 iterate 4 refine Qv Z Z Z Z ?_
 refine Qa (ps_pickT Z Z Z) (Qm (Qd (GoC.condT Z (Qi (Qc (Qa (Qh Z Z) (Qm (Qd ?_))))))))
 obtain rfl := Qg H
 exact Ja (ds := [.v (.int .i64 4)]) Try.results41 (Qs (Qw Z) (Qz)) (Ql _) ⟨Z, Z⟩
 replace H := ite_t h6 H
 iterate 2 refine Qv Z Z Z Z ?_
 refine Qa (ps_pickT Z Z Z) (Qa (Qj Z Z) ?_)
 iterate 5 refine Qv Z Z Z Z ?_
 refine Qa (ps_pickT Z Z Z) (Qm (Qd (GoC.condT Z (Qi (Qc (Qa (Qh Z Z) (Qm (Qd ?_))))))))
 obtain rfl := Qg H
 exact Ja (ds := [.v (.int .i64 4)]) Try.results41 (Qs (Qw Z) (Qz)) (Ql _) ⟨Z, Z⟩
 replace H := ite_t h5 H
 iterate 4 refine Qv Z Z Z Z ?_
 refine Qa (ps_pickT Z Z Z) (Qa (Qj Z Z) ?_)
 iterate 3 refine Qv Z Z Z Z ?_
 refine Qa (ps_pickT Z Z Z) (Qa (Qj Z Z) ?_)
 iterate 5 refine Qv Z Z Z Z ?_
 refine Qa (ps_pickT Z Z Z) (Qm (Qd (GoC.condT Z (Qi (Qc (Qa (Qh Z Z) (Qm (Qd ?_))))))))
 obtain rfl := Qg H
 exact Ja (ds := [.v (.int .i64 4)]) Try.results41 (Qs (Qw Z) (Qz)) (Ql _) ⟨Z, Z⟩
end Go.Proofs.Ytkfmphlnpmemdaa.Sx.Y
