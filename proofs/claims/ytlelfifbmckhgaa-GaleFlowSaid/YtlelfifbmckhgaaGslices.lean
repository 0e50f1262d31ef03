/- The functions slices.Clone.int, slices.Clone.Arc, bits.Len32, bits.Len64, bits.Len, cmp.isNaN.int, slices.nextPowerOfTwo, cmp.Compare.int, cmp.Or.int, slices.Equal.uint16, told as plain functions, and that the code does as they say. -/
import Derived.Test.YtlelfifbmckhgaaTys
import Derived.Test.YtlelfifbmckhgaaDat
namespace Go.Proofs.Ytlelfifbmckhgaa
open Go Go.Proofs.Ytlelfifbmckhgaa.Sx
set_option linter.unusedVariables false
set_option linter.unusedSimpArgs false
def slices_Clone_int_F (s_ : (List Int)) : Option ((List Int)) :=
 ck (0 + s_.length ≤ 17592186044416) <|
 some (([] : List Int) ++ s_)
def slices_Clone_int_P (out : (List Int)) (d : D) (H : List HL) : Prop := ∃ β1 : BK, d = .own β1 1 0 out.length ∧ H = [.one β1 3 1 (row out)]
theorem slices_Clone_int_I (out : (List Int)) : IndepP (slices_Clone_int_P out) := IndepP.of (by rintro _ _ ⟨β1, rfl, rfl⟩; exact ⟨inferInstance, inferInstance⟩)
set_option maxRecDepth 100000 in
set_option maxHeartbeats 4000000 in
theorem slices_Clone_int_spec (s_ : (List Int)) {out : (List Int)} (H : slices_Clone_int_F s_ = some out) : Does Try.prog 41 [slD s_] [] (slices_Clone_int_P out) := by
 unfold slices_Clone_int_F at H
 refine Does.intro Try.func41 rfl Try.ntmps41 rfl fun w0 I0 => ?_
 refine GoC.seq ?_
 refine GoC.region ?_
 refine GoO.pure (ps_assign rfl rfl) ?_
 refine GoO.nil ?_
 refine GoK.code ?_
 refine GoC.seq ?_
 refine GoC.seq ?_
 refine GoC.region ?_
 refine GoO.pure (ps_move rfl rfl) ?_
 refine GoO.eff (ef_eqlNil rfl rfl rfl) (fun s2 hs2 => ?_)
 obtain ⟨bn1, hbn1, rfl⟩ := hs2
 refine GoO.nil ?_
 refine GoK.code ?_
 refine GoC.cond rfl (fun h2 => ?_) (fun h2 => ?_)
 have e0 := List.eq_nil_of_length_eq_zero (hbn1 h2); subst e0; replace H := ck_r H
 refine GoC.seq ?_
 refine GoC.region ?_
 refine GoO.pure (ps_assign rfl rfl) ?_
 refine GoO.nil ?_
 refine GoK.code ?_
 obtain rfl := Option.some.inj H
 refine GoC.le (le_row0 3 1 (row ([] : List Int)) rfl) ?_
 exact GoC.retL (ds := [.own ⟨0, 0, 0⟩ 1 0 0]) Try.results41 (ResL.cons (ResD.le (ResD.tmp rfl) (by exact DLe.nilOwn)) (ResL.nil)) (Take.cons _ _ _ _ _ Rem.p0 (Take.nil _)) ⟨⟨0, 0, 0⟩, rfl, rfl⟩
 refine GoC.skip ?_
 refine GoK.code ?_
 refine GoC.seq ?_
 refine GoC.region ?_
 refine GoO.effB (ef_buildSlice (row (([] : List Int) : List Int)) rfl (Parts.nil _) rfl rfl rfl rfl) (fun β3 => ?_)
 refine GoO.pure (ps_move rfl rfl) ?_
 have c5 := ck_l H; replace H := ck_r H
 refine GoO.effB (ef_append rfl rfl Rem.p0 Src.sl (cat_row (α := Int) (by first | rfl | omega | (simp only [subl_length, cpl_length, List.length_set, List.length_append, List.length_cons, List.length_nil, List.length_replicate, row_len] <;> first | rfl | omega)) (by first | rfl | omega | (simp only [subl_length, cpl_length, List.length_set, List.length_append, List.length_cons, List.length_nil, List.length_replicate, row_len] <;> first | rfl | omega)) (fun _ _ _ _ => rfl)) (by first | omega | (simp only [subl_length, cpl_length, List.length_set, List.length_append, List.length_cons, List.length_nil, List.length_replicate, row_len]; omega) | (simp only [subl_length, cpl_length, List.length_set, List.length_append, List.length_cons, List.length_nil, List.length_replicate, row_len]; done)) (app_le c5 rfl) rfl rfl rfl) (fun β4 => ?_)
 refine GoO.pure (ps_assign rfl rfl) ?_
 refine GoO.nil ?_
 refine GoK.code ?_
 obtain rfl := Option.some.inj H
 exact GoC.retL (ds := [.own β4 1 0 (([] : List Int) ++ s_).length]) Try.results41 (ResL.cons (ResD.le (ResD.tmp rfl) (by exact DLe.len (by first | rfl | omega | (simp only [row_len, List.length_append, List.length_cons, List.length_nil, List.length_nil] <;> first | rfl | omega)))) (ResL.nil)) (Take.cons _ _ _ _ _ Rem.p0 (Take.nil _)) ⟨β4, rfl, rfl⟩

def slices_Clone_Arc_F (s_ : (List Arc)) : Option ((List Arc)) :=
 ck (0 + s_.length ≤ 5864062014805) <|
 some (([] : List Arc) ++ s_)
def slices_Clone_Arc_P (out : (List Arc)) (d : D) (H : List HL) : Prop := ∃ β1 : BK, d = .own β1 3 0 out.length ∧ H = [.one β1 31 3 (row out)]
theorem slices_Clone_Arc_I (out : (List Arc)) : IndepP (slices_Clone_Arc_P out) := IndepP.of (by rintro _ _ ⟨β1, rfl, rfl⟩; exact ⟨inferInstance, inferInstance⟩)
set_option maxRecDepth 100000 in
set_option maxHeartbeats 4000000 in
theorem slices_Clone_Arc_spec (s_ : (List Arc)) {out : (List Arc)} (H : slices_Clone_Arc_F s_ = some out) : Does Try.prog 86 [slD s_] [] (slices_Clone_Arc_P out) := by
 unfold slices_Clone_Arc_F at H
 refine Does.intro Try.func86 rfl Try.ntmps86 rfl fun w0 I0 => ?_
 refine GoC.seq ?_
 refine GoC.region ?_
 refine GoO.pure (ps_assign rfl rfl) ?_
 refine GoO.nil ?_
 refine GoK.code ?_
 refine GoC.seq ?_
 refine GoC.seq ?_
 refine GoC.region ?_
 refine GoO.pure (ps_move rfl rfl) ?_
 refine GoO.eff (ef_eqlNil rfl rfl rfl) (fun s2 hs2 => ?_)
 obtain ⟨bn1, hbn1, rfl⟩ := hs2
 refine GoO.nil ?_
 refine GoK.code ?_
 refine GoC.cond rfl (fun h2 => ?_) (fun h2 => ?_)
 have e0 := List.eq_nil_of_length_eq_zero (hbn1 h2); subst e0; replace H := ck_r H
 refine GoC.seq ?_
 refine GoC.region ?_
 refine GoO.pure (ps_assign rfl rfl) ?_
 refine GoO.nil ?_
 refine GoK.code ?_
 obtain rfl := Option.some.inj H
 refine GoC.le (le_row0 31 3 (row ([] : List Arc)) rfl) ?_
 exact GoC.retL (ds := [.own ⟨0, 0, 0⟩ 3 0 0]) Try.results86 (ResL.cons (ResD.le (ResD.tmp rfl) (by exact DLe.nilOwn)) (ResL.nil)) (Take.cons _ _ _ _ _ Rem.p0 (Take.nil _)) ⟨⟨0, 0, 0⟩, rfl, rfl⟩
 refine GoC.skip ?_
 refine GoK.code ?_
 refine GoC.seq ?_
 refine GoC.region ?_
 refine GoO.effB (ef_buildSlice (row (([] : List Arc) : List Arc)) rfl (Parts.nil _) rfl rfl rfl rfl) (fun β3 => ?_)
 refine GoO.pure (ps_move rfl rfl) ?_
 have c5 := ck_l H; replace H := ck_r H
 refine GoO.effB (ef_append rfl rfl Rem.p0 Src.sl (cat_row (α := Arc) (by first | rfl | omega | (simp only [subl_length, cpl_length, List.length_set, List.length_append, List.length_cons, List.length_nil, List.length_replicate, row_len] <;> first | rfl | omega)) (by first | rfl | omega | (simp only [subl_length, cpl_length, List.length_set, List.length_append, List.length_cons, List.length_nil, List.length_replicate, row_len] <;> first | rfl | omega)) (fun _ _ _ _ => rfl)) (by first | omega | (simp only [subl_length, cpl_length, List.length_set, List.length_append, List.length_cons, List.length_nil, List.length_replicate, row_len]; omega) | (simp only [subl_length, cpl_length, List.length_set, List.length_append, List.length_cons, List.length_nil, List.length_replicate, row_len]; done)) (app_le c5 rfl) rfl rfl rfl) (fun β4 => ?_)
 refine GoO.pure (ps_assign rfl rfl) ?_
 refine GoO.nil ?_
 refine GoK.code ?_
 obtain rfl := Option.some.inj H
 exact GoC.retL (ds := [.own β4 3 0 (([] : List Arc) ++ s_).length]) Try.results86 (ResL.cons (ResD.le (ResD.tmp rfl) (by exact DLe.len (by first | rfl | omega | (simp only [row_len, List.length_append, List.length_cons, List.length_nil, List.length_nil] <;> first | rfl | omega)))) (ResL.nil)) (Take.cons _ _ _ _ _ Rem.p0 (Take.nil _)) ⟨β4, rfl, rfl⟩

def bits_Len32_F (p0 : Int) : Option (Int) :=
 ((
  if 65536 ≤ p0 then
   some ((Int.fdiv p0 (2 ^ min 16 32)), 16)
  else
   some (p0, 0)) : Option (Int × Int)).bind fun (x1, x2) =>
 ((
  if 256 ≤ x1 then
   ck (InI (x2 + 8)) <|
   some ((Int.fdiv x1 (2 ^ min 8 32)), (x2 + 8))
  else
   some (x1, x2)) : Option (Int × Int)).bind fun (x6, x7) =>
 ck (0 ≤ (IntKind.u8.wrap x6) ∧ (IntKind.u8.wrap x6) < 13) <|
 ck (InI (x7 + (IntKind.i64.wrap (len8s.getD ((IntKind.u8.wrap x6)).toNat 0)))) <|
 some (x7 + (IntKind.i64.wrap (len8s.getD ((IntKind.u8.wrap x6)).toNat 0)))
def bits_Len32_P (out : Int) (d : D) (H : List HL) : Prop := d = .v (.int .i64 out) ∧ H = []
theorem bits_Len32_I (out : Int) : IndepP (bits_Len32_P out) := IndepP.of (by rintro _ _ ⟨rfl, rfl⟩; exact ⟨inferInstance, inferInstance⟩)
set_option maxRecDepth 100000 in
set_option maxHeartbeats 4000000 in
theorem bits_Len32_spec (p0 : Int) {out : Int} (H : bits_Len32_F p0 = some out) : Does Try.prog 104 [.v (.int .u32 p0)] [] (bits_Len32_P out) := by
 unfold bits_Len32_F at H
 refine Does.intro Try.func104 rfl Try.ntmps104 rfl fun w0 I0 => ?_
 refine GoC.seq ?_
 refine GoC.region ?_
 refine GoO.pure (ps_assign rfl rfl) ?_
 refine GoO.nil ?_
 refine GoK.code ?_
 have hb := bind_l H; clear H
 obtain ⟨⟨x1, x2⟩, H, HK3⟩ := hb
 refine GoC.seqJ [] [] (fun v h => v = [(0, .v (.int .u32 x1)), (2, .v (.int .i64 x2))] ∧ h = []) ?_ ?_
 refine GoC.seq ?_
 refine GoC.region ?_
 refine GoO.pure (ps_move rfl rfl) ?_
 refine GoO.pure (ps_geq rfl rfl rfl) ?_
 refine GoO.nil ?_
 refine GoK.code ?_
 refine GoC.condD rfl (fun h5 => ?_) (fun h5 => ?_)
 replace H := ite_t h5 H
 refine GoC.seq ?_
 refine GoC.region ?_
 refine GoO.pure (ps_move rfl rfl) ?_
 refine GoO.pure (ps_shr rfl rfl rfl (by decide)) ?_
 refine GoO.pure (ps_assign rfl rfl) ?_
 refine GoO.nil ?_
 refine GoK.code ?_
 refine GoC.region ?_
 refine GoO.pure (ps_assign rfl rfl) ?_
 refine GoO.nil ?_
 cases H
 exact GoK.meet ⟨rfl, rfl⟩ (EnvD.eq rfl (EnvD.eq rfl (EnvD.nil))) (TkD.nil _)
 replace H := ite_f h5 H
 refine GoC.skip ?_
 cases H
 exact GoK.meet ⟨rfl, rfl⟩ (EnvD.eq rfl (EnvD.eq rfl (EnvD.nil))) (TkD.nil _)
 rintro v h ⟨rfl, rfl⟩
 have H := HK3; clear HK3
 have hb := bind_l H; clear H
 obtain ⟨⟨x6, x7⟩, H, HK8⟩ := hb
 refine GoC.seqJ [] [] (fun v h => v = [(0, .v (.int .u32 x6)), (2, .v (.int .i64 x7))] ∧ h = []) ?_ ?_
 refine GoC.seq ?_
 refine GoC.region ?_
 refine GoO.pure (ps_move rfl rfl) ?_
 refine GoO.pure (ps_geq rfl rfl rfl) ?_
 refine GoO.nil ?_
 refine GoK.code ?_
 refine GoC.condD rfl (fun h10 => ?_) (fun h10 => ?_)
 replace H := ite_t h10 H
 refine GoC.seq ?_
 refine GoC.region ?_
 refine GoO.pure (ps_move rfl rfl) ?_
 refine GoO.pure (ps_shr rfl rfl rfl (by decide)) ?_
 refine GoO.pure (ps_assign rfl rfl) ?_
 refine GoO.nil ?_
 refine GoK.code ?_
 refine GoC.region ?_
 refine GoO.pure (ps_move rfl rfl) ?_
 have c11 := ck_l H; replace H := ck_r H
 refine GoO.pure (ps_add rfl rfl rfl c11) ?_
 refine GoO.pure (ps_assign rfl rfl) ?_
 refine GoO.nil ?_
 cases H
 exact GoK.meet ⟨rfl, rfl⟩ (EnvD.eq rfl (EnvD.eq rfl (EnvD.nil))) (TkD.nil _)
 replace H := ite_f h10 H
 refine GoC.skip ?_
 cases H
 exact GoK.meet ⟨rfl, rfl⟩ (EnvD.eq rfl (EnvD.eq rfl (EnvD.nil))) (TkD.nil _)
 rintro v h ⟨rfl, rfl⟩
 have H := HK8; clear HK8
 refine GoC.seq ?_
 refine GoC.region ?_
 refine GoO.pure (ps_move rfl rfl) ?_
 refine GoO.pure (ps_move rfl rfl) ?_
 refine GoO.pure (ps_convK rfl rfl) ?_
 have c12 := ck_l H; replace H := ck_r H
 refine GoO.pure (ps_index8 (by kernel_rfl) rfl rfl (by kernel_rfl) c12 rfl) ?_
 refine GoO.pure (ps_convK rfl rfl) ?_
 have c13 := ck_l H; replace H := ck_r H
 refine GoO.pure (ps_add rfl rfl rfl c13) ?_
 refine GoO.pure (ps_assign rfl rfl) ?_
 refine GoO.nil ?_
 refine GoK.code ?_
 obtain rfl := Option.some.inj H
 exact GoC.retL (ds := [.v (.int .i64 (x7 + (IntKind.i64.wrap (len8s.getD ((IntKind.u8.wrap x6)).toNat 0))))]) Try.results104 (ResL.cons (ResD.tmp rfl) (ResL.nil)) (Take.nil _) ⟨rfl, rfl⟩

def bits_Len64_F (p0 : Int) : Option (Int) :=
 ((
  if 4294967296 ≤ p0 then
   some ((Int.fdiv p0 (2 ^ min 32 64)), 32)
  else
   some (p0, 0)) : Option (Int × Int)).bind fun (x1, x2) =>
 ((
  if 65536 ≤ x1 then
   ck (InI (x2 + 16)) <|
   some ((Int.fdiv x1 (2 ^ min 16 64)), (x2 + 16))
  else
   some (x1, x2)) : Option (Int × Int)).bind fun (x6, x7) =>
 ((
  if 256 ≤ x6 then
   ck (InI (x7 + 8)) <|
   some ((Int.fdiv x6 (2 ^ min 8 64)), (x7 + 8))
  else
   some (x6, x7)) : Option (Int × Int)).bind fun (x12, x13) =>
 ck (0 ≤ (IntKind.u8.wrap x12) ∧ (IntKind.u8.wrap x12) < 13) <|
 ck (InI (x13 + (IntKind.i64.wrap (len8s.getD ((IntKind.u8.wrap x12)).toNat 0)))) <|
 some (x13 + (IntKind.i64.wrap (len8s.getD ((IntKind.u8.wrap x12)).toNat 0)))
def bits_Len64_P (out : Int) (d : D) (H : List HL) : Prop := d = .v (.int .i64 out) ∧ H = []
theorem bits_Len64_I (out : Int) : IndepP (bits_Len64_P out) := IndepP.of (by rintro _ _ ⟨rfl, rfl⟩; exact ⟨inferInstance, inferInstance⟩)
set_option maxRecDepth 100000 in
set_option maxHeartbeats 4000000 in
theorem bits_Len64_spec (p0 : Int) {out : Int} (H : bits_Len64_F p0 = some out) : Does Try.prog 105 [.v (.int .u64 p0)] [] (bits_Len64_P out) := by
 unfold bits_Len64_F at H
 refine Does.intro Try.func105 rfl Try.ntmps105 rfl fun w0 I0 => ?_
 refine GoC.seq ?_
 refine GoC.region ?_
 refine GoO.pure (ps_assign rfl rfl) ?_
 refine GoO.nil ?_
 refine GoK.code ?_
 have hb := bind_l H; clear H
 obtain ⟨⟨x1, x2⟩, H, HK3⟩ := hb
 refine GoC.seqJ [] [] (fun v h => v = [(0, .v (.int .u64 x1)), (2, .v (.int .i64 x2))] ∧ h = []) ?_ ?_
 refine GoC.seq ?_
 refine GoC.region ?_
 refine GoO.pure (ps_move rfl rfl) ?_
 refine GoO.pure (ps_geq rfl rfl rfl) ?_
 refine GoO.nil ?_
 refine GoK.code ?_
 refine GoC.condD rfl (fun h5 => ?_) (fun h5 => ?_)
 replace H := ite_t h5 H
 refine GoC.seq ?_
 refine GoC.region ?_
 refine GoO.pure (ps_move rfl rfl) ?_
 refine GoO.pure (ps_shr rfl rfl rfl (by decide)) ?_
 refine GoO.pure (ps_assign rfl rfl) ?_
 refine GoO.nil ?_
 refine GoK.code ?_
 refine GoC.region ?_
 refine GoO.pure (ps_assign rfl rfl) ?_
 refine GoO.nil ?_
 cases H
 exact GoK.meet ⟨rfl, rfl⟩ (EnvD.eq rfl (EnvD.eq rfl (EnvD.nil))) (TkD.nil _)
 replace H := ite_f h5 H
 refine GoC.skip ?_
 cases H
 exact GoK.meet ⟨rfl, rfl⟩ (EnvD.eq rfl (EnvD.eq rfl (EnvD.nil))) (TkD.nil _)
 rintro v h ⟨rfl, rfl⟩
 have H := HK3; clear HK3
 have hb := bind_l H; clear H
 obtain ⟨⟨x6, x7⟩, H, HK8⟩ := hb
 refine GoC.seqJ [] [] (fun v h => v = [(0, .v (.int .u64 x6)), (2, .v (.int .i64 x7))] ∧ h = []) ?_ ?_
 refine GoC.seq ?_
 refine GoC.region ?_
 refine GoO.pure (ps_move rfl rfl) ?_
 refine GoO.pure (ps_geq rfl rfl rfl) ?_
 refine GoO.nil ?_
 refine GoK.code ?_
 refine GoC.condD rfl (fun h10 => ?_) (fun h10 => ?_)
 replace H := ite_t h10 H
 refine GoC.seq ?_
 refine GoC.region ?_
 refine GoO.pure (ps_move rfl rfl) ?_
 refine GoO.pure (ps_shr rfl rfl rfl (by decide)) ?_
 refine GoO.pure (ps_assign rfl rfl) ?_
 refine GoO.nil ?_
 refine GoK.code ?_
 refine GoC.region ?_
 refine GoO.pure (ps_move rfl rfl) ?_
 have c11 := ck_l H; replace H := ck_r H
 refine GoO.pure (ps_add rfl rfl rfl c11) ?_
 refine GoO.pure (ps_assign rfl rfl) ?_
 refine GoO.nil ?_
 cases H
 exact GoK.meet ⟨rfl, rfl⟩ (EnvD.eq rfl (EnvD.eq rfl (EnvD.nil))) (TkD.nil _)
 replace H := ite_f h10 H
 refine GoC.skip ?_
 cases H
 exact GoK.meet ⟨rfl, rfl⟩ (EnvD.eq rfl (EnvD.eq rfl (EnvD.nil))) (TkD.nil _)
 rintro v h ⟨rfl, rfl⟩
 have H := HK8; clear HK8
 have hb := bind_l H; clear H
 obtain ⟨⟨x12, x13⟩, H, HK14⟩ := hb
 refine GoC.seqJ [] [] (fun v h => v = [(0, .v (.int .u64 x12)), (2, .v (.int .i64 x13))] ∧ h = []) ?_ ?_
 refine GoC.seq ?_
 refine GoC.region ?_
 refine GoO.pure (ps_move rfl rfl) ?_
 refine GoO.pure (ps_geq rfl rfl rfl) ?_
 refine GoO.nil ?_
 refine GoK.code ?_
 refine GoC.condD rfl (fun h16 => ?_) (fun h16 => ?_)
 replace H := ite_t h16 H
 refine GoC.seq ?_
 refine GoC.region ?_
 refine GoO.pure (ps_move rfl rfl) ?_
 refine GoO.pure (ps_shr rfl rfl rfl (by decide)) ?_
 refine GoO.pure (ps_assign rfl rfl) ?_
 refine GoO.nil ?_
 refine GoK.code ?_
 refine GoC.region ?_
 refine GoO.pure (ps_move rfl rfl) ?_
 have c17 := ck_l H; replace H := ck_r H
 refine GoO.pure (ps_add rfl rfl rfl c17) ?_
 refine GoO.pure (ps_assign rfl rfl) ?_
 refine GoO.nil ?_
 cases H
 exact GoK.meet ⟨rfl, rfl⟩ (EnvD.eq rfl (EnvD.eq rfl (EnvD.nil))) (TkD.nil _)
 replace H := ite_f h16 H
 refine GoC.skip ?_
 cases H
 exact GoK.meet ⟨rfl, rfl⟩ (EnvD.eq rfl (EnvD.eq rfl (EnvD.nil))) (TkD.nil _)
 rintro v h ⟨rfl, rfl⟩
 have H := HK14; clear HK14
 refine GoC.seq ?_
 refine GoC.region ?_
 refine GoO.pure (ps_move rfl rfl) ?_
 refine GoO.pure (ps_move rfl rfl) ?_
 refine GoO.pure (ps_convK rfl rfl) ?_
 have c18 := ck_l H; replace H := ck_r H
 refine GoO.pure (ps_index8 (by kernel_rfl) rfl rfl (by kernel_rfl) c18 rfl) ?_
 refine GoO.pure (ps_convK rfl rfl) ?_
 have c19 := ck_l H; replace H := ck_r H
 refine GoO.pure (ps_add rfl rfl rfl c19) ?_
 refine GoO.pure (ps_assign rfl rfl) ?_
 refine GoO.nil ?_
 refine GoK.code ?_
 obtain rfl := Option.some.inj H
 exact GoC.retL (ds := [.v (.int .i64 (x13 + (IntKind.i64.wrap (len8s.getD ((IntKind.u8.wrap x12)).toNat 0))))]) Try.results105 (ResL.cons (ResD.tmp rfl) (ResL.nil)) (Take.nil _) ⟨rfl, rfl⟩

def bits_Len_F (p0 : Int) : Option (Int) :=
 (bits_Len64_F p0).bind fun r1 =>
 some r1
def bits_Len_P (out : Int) (d : D) (H : List HL) : Prop := d = .v (.int .i64 out) ∧ H = []
theorem bits_Len_I (out : Int) : IndepP (bits_Len_P out) := IndepP.of (by rintro _ _ ⟨rfl, rfl⟩; exact ⟨inferInstance, inferInstance⟩)
set_option maxRecDepth 100000 in
set_option maxHeartbeats 4000000 in
theorem bits_Len_spec (p0 : Int) {out : Int} (H : bits_Len_F p0 = some out) : Does Try.prog 88 [.v (.int .u64 p0)] [] (bits_Len_P out) := by
 unfold bits_Len_F at H
 refine Does.intro Try.func88 rfl Try.ntmps88 rfl fun w0 I0 => ?_
 refine GoC.seq ?_
 refine GoC.region ?_
 refine GoO.pure (ps_assign rfl rfl) ?_
 refine GoO.nil ?_
 refine GoK.code ?_
 refine GoC.seq ?_
 refine GoC.condF rfl ?_
 refine GoC.skip ?_
 refine GoK.code ?_
 refine GoC.seq ?_
 refine GoC.region ?_
 refine GoO.pure (ps_move rfl rfl) ?_
 have hb := bind_l H; clear H
 obtain ⟨r1, e2, H⟩ := hb
 refine GoO.effC (ef_call rfl (Take.nil _) (Take.nil _) (bits_Len64_spec p0 e2) (LendL.cons (Lend.refl _ _) (LendL.nil)) rfl (bits_Len64_I (r1))) (fun rr HH hp => ?_)
 obtain ⟨rfl, rfl⟩ := hp
 refine GoO.pure (ps_assign rfl rfl) ?_
 refine GoO.nil ?_
 refine GoK.code ?_
 obtain rfl := Option.some.inj H
 exact GoC.retL (ds := [.v (.int .i64 r1)]) Try.results88 (ResL.cons (ResD.tmp rfl) (ResL.nil)) (Take.nil _) ⟨rfl, rfl⟩

def cmp_isNaN_int_F (p0 : Int) : Option (Bool) :=
 some (decide (p0 ≠ p0))
def cmp_isNaN_int_P (out : Bool) (d : D) (H : List HL) : Prop := d = .v (.bool out) ∧ H = []
theorem cmp_isNaN_int_I (out : Bool) : IndepP (cmp_isNaN_int_P out) := IndepP.of (by rintro _ _ ⟨rfl, rfl⟩; exact ⟨inferInstance, inferInstance⟩)
set_option maxRecDepth 100000 in
set_option maxHeartbeats 4000000 in
theorem cmp_isNaN_int_spec (p0 : Int) {out : Bool} (H : cmp_isNaN_int_F p0 = some out) : Does Try.prog 90 [.v (.int .i64 p0)] [] (cmp_isNaN_int_P out) := by
 unfold cmp_isNaN_int_F at H
 refine Does.intro Try.func90 rfl Try.ntmps90 rfl fun w0 I0 => ?_
 refine GoC.seq ?_
 refine GoC.region ?_
 refine GoO.pure (ps_assign rfl rfl) ?_
 refine GoO.nil ?_
 refine GoK.code ?_
 refine GoC.seq ?_
 refine GoC.region ?_
 refine GoO.pure (ps_move rfl rfl) ?_
 refine GoO.pure (ps_move rfl rfl) ?_
 refine GoO.pure (ps_neq rfl rfl rfl) ?_
 refine GoO.pure (ps_assign rfl rfl) ?_
 refine GoO.nil ?_
 refine GoK.code ?_
 obtain rfl := Option.some.inj H
 exact GoC.retL (ds := [.v (.bool (decide (p0 ≠ p0)))]) Try.results90 (ResL.cons (ResD.tmp rfl) (ResL.nil)) (Take.nil _) ⟨rfl, rfl⟩

def slices_nextPowerOfTwo_F (p0 : Int) : Option (Int) :=
 (bits_Len_F (IntKind.u64.wrap p0)).bind fun r1 =>
 ck (0 ≤ r1) <|
 some (IntKind.u64.wrap (1 * 2 ^ min r1.toNat 64))
def slices_nextPowerOfTwo_P (out : Int) (d : D) (H : List HL) : Prop := d = .v (.int .u64 out) ∧ H = []
theorem slices_nextPowerOfTwo_I (out : Int) : IndepP (slices_nextPowerOfTwo_P out) := IndepP.of (by rintro _ _ ⟨rfl, rfl⟩; exact ⟨inferInstance, inferInstance⟩)
set_option maxRecDepth 100000 in
set_option maxHeartbeats 4000000 in
theorem slices_nextPowerOfTwo_spec (p0 : Int) {out : Int} (H : slices_nextPowerOfTwo_F p0 = some out) : Does Try.prog 115 [.v (.int .i64 p0)] [] (slices_nextPowerOfTwo_P out) := by
 unfold slices_nextPowerOfTwo_F at H
 refine Does.intro Try.func115 rfl Try.ntmps115 rfl fun w0 I0 => ?_
 refine GoC.seq ?_
 refine GoC.region ?_
 refine GoO.pure (ps_assign rfl rfl) ?_
 refine GoO.nil ?_
 refine GoK.code ?_
 refine GoC.seq ?_
 refine GoC.region ?_
 refine GoO.pure (ps_move rfl rfl) ?_
 refine GoO.pure (ps_convK rfl rfl) ?_
 have hb := bind_l H; clear H
 obtain ⟨r1, e2, H⟩ := hb
 refine GoO.effC (ef_call rfl (Take.nil _) (Take.nil _) (bits_Len_spec (IntKind.u64.wrap p0) e2) (LendL.cons (Lend.refl _ _) (LendL.nil)) rfl (bits_Len_I (r1))) (fun rr HH hp => ?_)
 obtain ⟨rfl, rfl⟩ := hp
 have c3 := ck_l H; replace H := ck_r H
 refine GoO.pure (ps_shl rfl rfl rfl c3) ?_
 refine GoO.pure (ps_assign rfl rfl) ?_
 refine GoO.nil ?_
 refine GoK.code ?_
 obtain rfl := Option.some.inj H
 exact GoC.retL (ds := [.v (.int .u64 (IntKind.u64.wrap (1 * 2 ^ min r1.toNat 64)))]) Try.results115 (ResL.cons (ResD.tmp rfl) (ResL.nil)) (Take.nil _) ⟨rfl, rfl⟩

def cmp_Compare_int_F (p0 : Int) (p1 : Int) : Option (Int) :=
 (cmp_isNaN_int_F p0).bind fun r1 =>
 (cmp_isNaN_int_F p1).bind fun r3 =>
 if r1 = true then
  if r3 = true then
   some 0
  else
   some (-1)
 else
  if r3 = true then
   some 1
  else
   if p0 < p1 then
    some (-1)
   else
    if p1 < p0 then
     some 1
    else
     some 0
def cmp_Compare_int_P (out : Int) (d : D) (H : List HL) : Prop := d = .v (.int .i64 out) ∧ H = []
theorem cmp_Compare_int_I (out : Int) : IndepP (cmp_Compare_int_P out) := IndepP.of (by rintro _ _ ⟨rfl, rfl⟩; exact ⟨inferInstance, inferInstance⟩)
set_option maxRecDepth 100000 in
set_option maxHeartbeats 4000000 in
theorem cmp_Compare_int_spec (p0 : Int) (p1 : Int) {out : Int} (H : cmp_Compare_int_F p0 p1 = some out) : Does Try.prog 75 [.v (.int .i64 p0), .v (.int .i64 p1)] [] (cmp_Compare_int_P out) := by
 unfold cmp_Compare_int_F at H
 refine Does.intro Try.func75 rfl Try.ntmps75 rfl fun w0 I0 => ?_
 refine GoC.seq ?_
 refine GoC.region ?_
 refine GoO.pure (ps_assign rfl rfl) ?_
 refine GoO.nil ?_
 refine GoK.code ?_
 refine GoC.seq ?_
 refine GoC.region ?_
 refine GoO.pure (ps_move rfl rfl) ?_
 have hb := bind_l H; clear H
 obtain ⟨r1, e2, H⟩ := hb
 refine GoO.effC (ef_call rfl (Take.nil _) (Take.nil _) (cmp_isNaN_int_spec p0 e2) (LendL.cons (Lend.refl _ _) (LendL.nil)) rfl (cmp_isNaN_int_I (r1))) (fun rr HH hp => ?_)
 obtain ⟨rfl, rfl⟩ := hp
 refine GoO.pure (ps_assign rfl rfl) ?_
 refine GoO.nil ?_
 refine GoK.code ?_
 refine GoC.seq ?_
 refine GoC.region ?_
 refine GoO.pure (ps_move rfl rfl) ?_
 have hb := bind_l H; clear H
 obtain ⟨r3, e4, H⟩ := hb
 refine GoO.effC (ef_call rfl (Take.nil _) (Take.nil _) (cmp_isNaN_int_spec p1 e4) (LendL.cons (Lend.refl _ _) (LendL.nil)) rfl (cmp_isNaN_int_I (r3))) (fun rr HH hp => ?_)
 obtain ⟨rfl, rfl⟩ := hp
 refine GoO.pure (ps_assign rfl rfl) ?_
 refine GoO.nil ?_
 refine GoK.code ?_
 refine GoC.seq ?_
 refine GoC.seq ?_
 refine GoC.region ?_
 refine GoO.pure (ps_move rfl rfl) ?_
 refine GoO.nil ?_
 refine GoK.code ?_
 refine GoC.cond rfl (fun h5 => ?_) (fun h5 => ?_)
 replace H := itb_t h5 H
 refine GoC.seq ?_
 refine GoC.seq ?_
 refine GoC.region ?_
 refine GoO.pure (ps_move rfl rfl) ?_
 refine GoO.nil ?_
 refine GoK.code ?_
 refine GoC.cond rfl (fun h6 => ?_) (fun h6 => ?_)
 replace H := itb_t h6 H
 refine GoC.seq ?_
 refine GoC.region ?_
 refine GoO.pure (ps_assign rfl rfl) ?_
 refine GoO.nil ?_
 refine GoK.code ?_
 obtain rfl := Option.some.inj H
 exact GoC.retL (ds := [.v (.int .i64 0)]) Try.results75 (ResL.cons (ResD.tmp rfl) (ResL.nil)) (Take.nil _) ⟨rfl, rfl⟩
 replace H := itb_f h6 H
 refine GoC.skip ?_
 refine GoK.code ?_
 refine GoC.seq ?_
 refine GoC.region ?_
 refine GoO.pure (ps_assign rfl rfl) ?_
 refine GoO.nil ?_
 refine GoK.code ?_
 obtain rfl := Option.some.inj H
 exact GoC.retL (ds := [.v (.int .i64 (-1))]) Try.results75 (ResL.cons (ResD.tmp rfl) (ResL.nil)) (Take.nil _) ⟨rfl, rfl⟩
 replace H := itb_f h5 H
 refine GoC.skip ?_
 refine GoK.code ?_
 refine GoC.seq ?_
 refine GoC.seq ?_
 refine GoC.region ?_
 refine GoO.pure (ps_move rfl rfl) ?_
 refine GoO.nil ?_
 refine GoK.code ?_
 refine GoC.cond rfl (fun h7 => ?_) (fun h7 => ?_)
 replace H := itb_t h7 H
 refine GoC.seq ?_
 refine GoC.region ?_
 refine GoO.pure (ps_assign rfl rfl) ?_
 refine GoO.nil ?_
 refine GoK.code ?_
 obtain rfl := Option.some.inj H
 exact GoC.retL (ds := [.v (.int .i64 1)]) Try.results75 (ResL.cons (ResD.tmp rfl) (ResL.nil)) (Take.nil _) ⟨rfl, rfl⟩
 replace H := itb_f h7 H
 refine GoC.skip ?_
 refine GoK.code ?_
 refine GoC.seq ?_
 refine GoC.seq ?_
 refine GoC.region ?_
 refine GoO.pure (ps_move rfl rfl) ?_
 refine GoO.pure (ps_move rfl rfl) ?_
 refine GoO.pure (ps_lss rfl rfl rfl) ?_
 refine GoO.nil ?_
 refine GoK.code ?_
 refine GoC.condD rfl (fun h8 => ?_) (fun h8 => ?_)
 replace H := ite_t h8 H
 refine GoC.seq ?_
 refine GoC.region ?_
 refine GoO.pure (ps_assign rfl rfl) ?_
 refine GoO.nil ?_
 refine GoK.code ?_
 obtain rfl := Option.some.inj H
 exact GoC.retL (ds := [.v (.int .i64 (-1))]) Try.results75 (ResL.cons (ResD.tmp rfl) (ResL.nil)) (Take.nil _) ⟨rfl, rfl⟩
 replace H := ite_f h8 H
 refine GoC.skip ?_
 refine GoK.code ?_
 refine GoC.seq ?_
 refine GoC.seq ?_
 refine GoC.region ?_
 refine GoO.pure (ps_move rfl rfl) ?_
 refine GoO.pure (ps_move rfl rfl) ?_
 refine GoO.pure (ps_gtr rfl rfl rfl) ?_
 refine GoO.nil ?_
 refine GoK.code ?_
 refine GoC.condD rfl (fun h9 => ?_) (fun h9 => ?_)
 replace H := ite_t h9 H
 refine GoC.seq ?_
 refine GoC.region ?_
 refine GoO.pure (ps_assign rfl rfl) ?_
 refine GoO.nil ?_
 refine GoK.code ?_
 obtain rfl := Option.some.inj H
 exact GoC.retL (ds := [.v (.int .i64 1)]) Try.results75 (ResL.cons (ResD.tmp rfl) (ResL.nil)) (Take.nil _) ⟨rfl, rfl⟩
 replace H := ite_f h9 H
 refine GoC.skip ?_
 refine GoK.code ?_
 refine GoC.seq ?_
 refine GoC.region ?_
 refine GoO.pure (ps_assign rfl rfl) ?_
 refine GoO.nil ?_
 refine GoK.code ?_
 obtain rfl := Option.some.inj H
 exact GoC.retL (ds := [.v (.int .i64 0)]) Try.results75 (ResL.cons (ResD.tmp rfl) (ResL.nil)) (Take.nil _) ⟨rfl, rfl⟩

def cmp_Or_int_B1 (p0 : (List Int)) : Nat → Unit → Option (Ct (Unit) (Int)) := fun k5 _ =>
 if (p0.getD k5 (0 : Int)) ≠ 0 then
  some (.ret (p0.getD k5 (0 : Int)))
 else
  some (.go ())
def cmp_Or_int_F (p0 : (List Int)) : Option (Int) :=
 (forC (cmp_Or_int_B1 p0) p0.length 0 ()).bind fun q => match q with
 | .go _ =>
  some 0
 | .ret x => some x
def cmp_Or_int_P (out : Int) (d : D) (H : List HL) : Prop := d = .v (.int .i64 out) ∧ H = []
theorem cmp_Or_int_I (out : Int) : IndepP (cmp_Or_int_P out) := IndepP.of (by rintro _ _ ⟨rfl, rfl⟩; exact ⟨inferInstance, inferInstance⟩)
set_option maxRecDepth 100000 in
set_option maxHeartbeats 4000000 in
theorem cmp_Or_int_spec (p0 : (List Int)) {out : Int} (H : cmp_Or_int_F p0 = some out) : Does Try.prog 74 [slD p0] [] (cmp_Or_int_P out) := by
 unfold cmp_Or_int_F at H
 refine Does.intro Try.func74 rfl Try.ntmps74 rfl fun w0 I0 => ?_
 refine GoC.seq ?_
 refine GoC.region ?_
 refine GoO.pure (ps_assign rfl rfl) ?_
 refine GoO.nil ?_
 refine GoK.code ?_
 refine GoC.seq ?_
 refine GoC.region ?_
 refine GoO.pure (ps_assign rfl rfl) ?_
 refine GoO.nil ?_
 refine GoK.code ?_
 refine GoC.seq ?_
 refine GoC.seq ?_
 refine GoC.region ?_
 refine GoO.pure (ps_move rfl rfl) ?_
 refine GoO.pure (ps_len rfl (by constructor) rfl) ?_
 refine GoO.lenLe (n := p0.length) (x := .tmp 6) rfl (by constructor) sl_lenLe (fun ml1 => ?_)
 refine GoO.pure (ps_move rfl rfl) ?_
 refine GoO.nil ?_
 refine GoK.code ?_
 have hb := bind_l H; clear H
 obtain ⟨q4, hl8, HK2⟩ := hb
 refine GoC.blockJ [(3, .v (.int .i64 0))] [] (fun v h => q4 = .go () ∧ v = [] ∧ h = []) ?_ ?_
 refine GoC.loopJ [(3, _), (6, _), (7, _)] [] (fun m v h => ∃ (k5 : Nat), (k5 + m = p0.length ∧ forC (cmp_Or_int_B1 p0) m k5 () = some q4) ∧ v = [(8, .v (.int .i64 ((k5 : Nat) : Int)))] ∧ h = []) p0.length ⟨_, ⟨by omega, hl8⟩, rfl, rfl⟩ (EnvD.eq rfl (EnvD.eq rfl (EnvD.eq rfl (EnvD.eq rfl (EnvD.nil))))) (TkD.nil _) ?_
 rintro m6 v h ⟨k5, ⟨hkk5, hF3⟩, rfl, rfl⟩
 refine GoC.seq ?_
 refine GoC.region ?_
 refine GoO.pure (ps_lss rfl rfl rfl) ?_
 refine GoO.nil ?_
 refine GoK.code ?_
 refine GoC.seq ?_
 refine GoC.condD rfl (fun (hk5 : (k5 : Int) < ((p0.length : Nat) : Int)) => ?_) (fun (hk5 : ¬ (k5 : Int) < ((p0.length : Nat) : Int)) => ?_)
 obtain ⟨m6', rfl⟩ : ∃ x, m6 = x + 1 := ⟨m6 - 1, by omega⟩
 have hb := bind_l hF3; clear hF3
 obtain ⟨qrm6, H, hF3⟩ := hb
 have hnk5 : k5 < p0.length := by omega
 have hIk5 : InI ((k5 : Int) + 1) := inI_len hk5 ml1
 refine GoC.skip ?_
 refine GoK.code ?_
 refine GoC.seq ?_
 refine GoC.block ?_
 refine GoC.seq ?_
 refine GoC.region ?_
 refine GoO.pure (ps_indexAddrRN rfl rfl hnk5 rfl) ?_
 refine GoO.pure (ps_loadR rfl hnk5 rfl rfl) ?_
 refine GoO.pure (ps_assign rfl rfl) ?_
 refine GoO.nil ?_
 refine GoK.code ?_
 refine GoC.seq ?_
 refine GoC.region ?_
 refine GoO.pure (ps_move rfl rfl) ?_
 refine GoO.pure (ps_move rfl rfl) ?_
 refine GoO.pure (ps_neq rfl rfl rfl) ?_
 refine GoO.nil ?_
 refine GoK.code ?_
 refine GoC.condD rfl (fun h7 => ?_) (fun h7 => ?_)
 replace H := ite_t h7 H
 refine GoC.seq ?_
 refine GoC.region ?_
 refine GoO.pure (ps_move rfl rfl) ?_
 refine GoO.pure (ps_assign rfl rfl) ?_
 refine GoO.nil ?_
 refine GoK.code ?_
 obtain rfl := Option.some.inj H
 obtain rfl := Option.some.inj hF3
 obtain rfl := Option.some.inj HK2
 exact GoC.retL (ds := [.v (.int .i64 (p0.getD k5 (0 : Int)))]) Try.results74 (ResL.cons (ResD.tmp rfl) (ResL.nil)) (Take.nil _) ⟨rfl, rfl⟩
 replace H := ite_f h7 H
 refine GoC.skip ?_
 refine GoK.blk ?_
 refine GoK.code ?_
 refine GoC.region ?_
 refine GoO.pure (ps_add rfl rfl rfl hIk5) ?_
 refine GoO.pure (ps_move rfl rfl) ?_
 refine GoO.nil ?_
 obtain rfl := Option.some.inj H
 exact GoK.againJ m6' (by omega) ⟨_, ⟨by omega, hF3⟩, rfl, rfl⟩ (EnvD.eq rfl (EnvD.eq rfl (EnvD.eq rfl (EnvD.eq rfl (EnvD.nil))))) (TkD.nil _)
 obtain rfl : m6 = 0 := by omega
 refine GoC.exit rfl ?_
 cases hF3
 exact GoK.meet ⟨rfl, rfl, rfl⟩ (EnvD.eq rfl (EnvD.nil)) (TkD.nil _)
 rintro v h ⟨rfl, rfl, rfl⟩
 have H := HK2; clear HK2
 refine GoK.code ?_
 refine GoC.seq ?_
 refine GoC.region ?_
 refine GoO.pure (ps_move rfl rfl) ?_
 refine GoO.pure (ps_assign rfl rfl) ?_
 refine GoO.nil ?_
 refine GoK.code ?_
 obtain rfl := Option.some.inj H
 exact GoC.retL (ds := [.v (.int .i64 0)]) Try.results74 (ResL.cons (ResD.tmp rfl) (ResL.nil)) (Take.nil _) ⟨rfl, rfl⟩

def slices_Equal_uint16_B1 (s1_ : (List U16)) (s2_ : (List U16)) : Nat → Unit → Option (Ct (Unit) (Bool)) := fun k7 _ =>
 ck (k7 < s2_.length) <|
 if ((s1_.getD k7 El.d).v) ≠ ((s2_.getD k7 El.d).v) then
  some (.ret false)
 else
  some (.go ())
def slices_Equal_uint16_F (s1_ : (List U16)) (s2_ : (List U16)) : Option (Bool) :=
 if ((s1_.length : Nat) : Int) ≠ ((s2_.length : Nat) : Int) then
  some false
 else
  (forC (slices_Equal_uint16_B1 s1_ s2_) s1_.length 0 ()).bind fun q => match q with
  | .go _ =>
   some true
  | .ret x => some x
def slices_Equal_uint16_P (out : Bool) (d : D) (H : List HL) : Prop := d = .v (.bool out) ∧ H = []
theorem slices_Equal_uint16_I (out : Bool) : IndepP (slices_Equal_uint16_P out) := IndepP.of (by rintro _ _ ⟨rfl, rfl⟩; exact ⟨inferInstance, inferInstance⟩)
set_option maxRecDepth 100000 in
set_option maxHeartbeats 4000000 in
theorem slices_Equal_uint16_spec (s1_ : (List U16)) (s2_ : (List U16)) {out : Bool} (H : slices_Equal_uint16_F s1_ s2_ = some out) : Does Try.prog 70 [slD s1_, slD s2_] [] (slices_Equal_uint16_P out) := by
 unfold slices_Equal_uint16_F at H
 refine Does.intro Try.func70 rfl Try.ntmps70 rfl fun w0 I0 => ?_
 refine GoC.seq ?_
 refine GoC.region ?_
 refine GoO.pure (ps_assign rfl rfl) ?_
 refine GoO.nil ?_
 refine GoK.code ?_
 refine GoC.seq ?_
 refine GoC.seq ?_
 refine GoC.region ?_
 refine GoO.pure (ps_move rfl rfl) ?_
 refine GoO.pure (ps_len rfl (by constructor) rfl) ?_
 refine GoO.lenLe (n := s1_.length) (x := .tmp 6) rfl (by constructor) sl_lenLe (fun ml1 => ?_)
 refine GoO.pure (ps_move rfl rfl) ?_
 refine GoO.pure (ps_len rfl (by constructor) rfl) ?_
 refine GoO.lenLe (n := s2_.length) (x := .tmp 8) rfl (by constructor) sl_lenLe (fun ml2 => ?_)
 refine GoO.pure (ps_neq rfl rfl rfl) ?_
 refine GoO.nil ?_
 refine GoK.code ?_
 refine GoC.condD rfl (fun h3 => ?_) (fun h3 => ?_)
 replace H := ite_t h3 H
 refine GoC.seq ?_
 refine GoC.region ?_
 refine GoO.pure (ps_assign rfl rfl) ?_
 refine GoO.nil ?_
 refine GoK.code ?_
 obtain rfl := Option.some.inj H
 exact GoC.retL (ds := [.v (.bool false)]) Try.results70 (ResL.cons (ResD.tmp rfl) (ResL.nil)) (Take.nil _) ⟨rfl, rfl⟩
 replace H := ite_f h3 H
 refine GoC.skip ?_
 refine GoK.code ?_
 refine GoC.seq ?_
 refine GoC.seq ?_
 refine GoC.region ?_
 refine GoO.pure (ps_move rfl rfl) ?_
 refine GoO.pure (ps_len rfl (by constructor) rfl) ?_
 refine GoO.pure (ps_move rfl rfl) ?_
 refine GoO.nil ?_
 refine GoK.code ?_
 have hb := bind_l H; clear H
 obtain ⟨q6, hl11, HK4⟩ := hb
 refine GoC.blockJ [] [] (fun v h => q6 = .go () ∧ v = [] ∧ h = []) ?_ ?_
 refine GoC.loopJ [(0, _), (1, _), (12, _)] [] (fun m v h => ∃ (k7 : Nat), (k7 + m = s1_.length ∧ forC (slices_Equal_uint16_B1 s1_ s2_) m k7 () = some q6) ∧ v = [(13, .v (.int .i64 ((k7 : Nat) : Int)))] ∧ h = []) s1_.length ⟨_, ⟨by omega, hl11⟩, rfl, rfl⟩ (EnvD.eq rfl (EnvD.eq rfl (EnvD.eq rfl (EnvD.eq rfl (EnvD.nil))))) (TkD.nil _) ?_
 rintro m8 v h ⟨k7, ⟨hkk7, hF5⟩, rfl, rfl⟩
 refine GoC.seq ?_
 refine GoC.region ?_
 refine GoO.pure (ps_lss rfl rfl rfl) ?_
 refine GoO.nil ?_
 refine GoK.code ?_
 refine GoC.seq ?_
 refine GoC.condD rfl (fun (hk7 : (k7 : Int) < ((s1_.length : Nat) : Int)) => ?_) (fun (hk7 : ¬ (k7 : Int) < ((s1_.length : Nat) : Int)) => ?_)
 obtain ⟨m8', rfl⟩ : ∃ x, m8 = x + 1 := ⟨m8 - 1, by omega⟩
 have hb := bind_l hF5; clear hF5
 obtain ⟨qrm8, H, hF5⟩ := hb
 have hnk7 : k7 < s1_.length := by omega
 have hIk7 : InI ((k7 : Int) + 1) := inI_len hk7 ml1
 refine GoC.skip ?_
 refine GoK.code ?_
 refine GoC.seq ?_
 refine GoC.block ?_
 refine GoC.seq ?_
 refine GoC.region ?_
 refine GoO.pure (ps_move rfl rfl) ?_
 refine GoO.pure (ps_assign rfl rfl) ?_
 refine GoO.nil ?_
 refine GoK.code ?_
 refine GoC.seq ?_
 refine GoC.drawA (.q 0 (.q 1 (.q 2 (.q 3 (.q 4 (.q 5 (.q 6 (.q 7 (.q 8 (.done)))))))))) follows (by kernel_rfl) ?_
 refine GoP.qN rfl (ps_move rfl rfl) ?_
 refine GoP.qN rfl (ps_move rfl rfl) ?_
 refine GoP.qN rfl (ps_indexAddrRN rfl rfl hnk7 rfl) ?_
 refine GoP.qN rfl (ps_loadR rfl hnk7 rfl rfl) ?_
 refine GoP.qN rfl (ps_move rfl rfl) ?_
 refine GoP.qN rfl (ps_move rfl rfl) ?_
 have c9 := ck_l H; replace H := ck_r H
 refine GoP.qN rfl (ps_indexAddrRN rfl rfl c9 rfl) ?_
 refine GoP.qN rfl (ps_loadR rfl c9 rfl rfl) ?_
 refine GoP.qN rfl (ps_neq rfl rfl rfl) ?_
 refine GoP.done ?_
 refine GoK.code ?_
 refine GoC.condD rfl (fun h10 => ?_) (fun h10 => ?_)
 replace H := ite_t h10 H
 refine GoC.seq ?_
 refine GoC.region ?_
 refine GoO.pure (ps_assign rfl rfl) ?_
 refine GoO.nil ?_
 refine GoK.code ?_
 obtain rfl := Option.some.inj H
 obtain rfl := Option.some.inj hF5
 obtain rfl := Option.some.inj HK4
 exact GoC.retL (ds := [.v (.bool false)]) Try.results70 (ResL.cons (ResD.tmp rfl) (ResL.nil)) (Take.nil _) ⟨rfl, rfl⟩
 replace H := ite_f h10 H
 refine GoC.skip ?_
 refine GoK.blk ?_
 refine GoK.code ?_
 refine GoC.region ?_
 refine GoO.pure (ps_add rfl rfl rfl hIk7) ?_
 refine GoO.pure (ps_move rfl rfl) ?_
 refine GoO.nil ?_
 obtain rfl := Option.some.inj H
 exact GoK.againJ m8' (by omega) ⟨_, ⟨by omega, hF5⟩, rfl, rfl⟩ (EnvD.eq rfl (EnvD.eq rfl (EnvD.eq rfl (EnvD.eq rfl (EnvD.nil))))) (TkD.nil _)
 obtain rfl : m8 = 0 := by omega
 refine GoC.exit rfl ?_
 cases hF5
 exact GoK.meet ⟨rfl, rfl, rfl⟩ (EnvD.nil) (TkD.nil _)
 rintro v h ⟨rfl, rfl, rfl⟩
 have H := HK4; clear HK4
 refine GoK.code ?_
 refine GoC.seq ?_
 refine GoC.region ?_
 refine GoO.pure (ps_assign rfl rfl) ?_
 refine GoO.nil ?_
 refine GoK.code ?_
 obtain rfl := Option.some.inj H
 exact GoC.retL (ds := [.v (.bool true)]) Try.results70 (ResL.cons (ResD.tmp rfl) (ResL.nil)) (Take.nil _) ⟨rfl, rfl⟩

end Go.Proofs.Ytlelfifbmckhgaa
