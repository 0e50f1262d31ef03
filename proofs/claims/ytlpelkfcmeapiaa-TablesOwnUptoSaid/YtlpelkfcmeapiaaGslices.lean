/- The functions bits.Len32, bits.Len64, bits.Len, cmp.isNaN.int, cmp.Less.int, slices.insertionSortOrdered.int, slices.siftDownOrdered.int, slices.heapSortOrdered.int, slices.nextPowerOfTwo, slices.Next, slices.reverseRangeOrdered.int, slices.partialInsertionSortOrdered.int, slices.partitionEqualOrdered.int, slices.partitionOrdered.int, slices.pdqsortOrdered.int, slices.Sort.int, slices.Grow.intL, slices.Concat.intL, slices.Index.int, slices.Contains.int, slices.Equal.int, slices.Clone.int, cmp.Compare.int, cmp.Or.int, slices.Equal.uint16, slices.Reverse.int, told as plain functions, and that the code does as they say. -/
import Derived.Test.YtlpelkfcmeapiaaTys
import Derived.Test.YtlpelkfcmeapiaaDat
namespace Go.Proofs.Ytlpelkfcmeapiaa
open Go Go.Proofs.Ytlpelkfcmeapiaa.Sx
set_option linter.unusedVariables false
set_option linter.unusedSimpArgs false
def bits_Len32_F (p0 : Int) : Option (Int) :=
 ((
  if 65536 ≤ p0 then
   some ((Int.fdiv p0 (2 ^ min 16 32)), 16)
  else
   some (p0, 0)) : Option (Int × Int)).bind fun (x1, x2) =>
 ((
  if 256 ≤ x1 then
   ck (InI (x2 + 8)) <|
   some ((Int.fdiv x1 (2 ^ min 8 32)), (x2 + 8))
  else
   some (x1, x2)) : Option (Int × Int)).bind fun (x6, x7) =>
 ck (0 ≤ (IntKind.u8.wrap x6) ∧ (IntKind.u8.wrap x6) < 256) <|
 ck (InI (x7 + (IntKind.i64.wrap (len8s.getD ((IntKind.u8.wrap x6)).toNat 0)))) <|
 some (x7 + (IntKind.i64.wrap (len8s.getD ((IntKind.u8.wrap x6)).toNat 0)))
def bits_Len32_P (out : Int) (d : D) (H : List HL) : Prop := d = .v (.int .i64 out) ∧ H = []
theorem bits_Len32_I (out : Int) : IndepP (bits_Len32_P out) := IndepP.of (by rintro _ _ ⟨rfl, rfl⟩; exact ⟨inferInstance, inferInstance⟩)
set_option maxRecDepth 100000 in
set_option maxHeartbeats 4000000 in
theorem bits_Len32_spec (p0 : Int) {out : Int} (H : bits_Len32_F p0 = some out) : Does Try.prog 88 [.v (.int .u32 p0)] [] (bits_Len32_P out) := by
 unfold bits_Len32_F at H
 refine Does.intro Try.func88 rfl Try.ntmps88 rfl fun w0 I0 => ?_
 refine GoC.seq ?_
 refine GoC.region ?_
 refine GoO.pure (ps_assign rfl rfl) ?_
 refine GoO.nil ?_
 refine GoK.code ?_
 have hb := bind_l H; clear H
 obtain ⟨⟨x1, x2⟩, H, HK3⟩ := hb
 refine GoC.seqJ [] [] (fun v h => v = [(0, .v (.int .u32 x1)), (2, .v (.int .i64 x2))] ∧ h = []) ?_ ?_
 refine GoC.seq ?_
 refine GoC.region ?_
 refine GoO.pure (ps_move rfl rfl) ?_
 refine GoO.pure (ps_geq rfl rfl rfl) ?_
 refine GoO.nil ?_
 refine GoK.code ?_
 refine GoC.condD rfl (fun h5 => ?_) (fun h5 => ?_)
 replace H := ite_t h5 H
 refine GoC.seq ?_
 refine GoC.region ?_
 refine GoO.pure (ps_move rfl rfl) ?_
 refine GoO.pure (ps_shr rfl rfl rfl (by decide)) ?_
 refine GoO.pure (ps_assign rfl rfl) ?_
 refine GoO.nil ?_
 refine GoK.code ?_
 refine GoC.region ?_
 refine GoO.pure (ps_assign rfl rfl) ?_
 refine GoO.nil ?_
 cases H
 exact GoK.meet ⟨rfl, rfl⟩ (EnvD.eq rfl (EnvD.eq rfl (EnvD.nil))) (TkD.nil _)
 replace H := ite_f h5 H
 refine GoC.skip ?_
 cases H
 exact GoK.meet ⟨rfl, rfl⟩ (EnvD.eq rfl (EnvD.eq rfl (EnvD.nil))) (TkD.nil _)
 rintro v h ⟨rfl, rfl⟩
 have H := HK3; clear HK3
 have hb := bind_l H; clear H
 obtain ⟨⟨x6, x7⟩, H, HK8⟩ := hb
 refine GoC.seqJ [] [] (fun v h => v = [(0, .v (.int .u32 x6)), (2, .v (.int .i64 x7))] ∧ h = []) ?_ ?_
 refine GoC.seq ?_
 refine GoC.region ?_
 refine GoO.pure (ps_move rfl rfl) ?_
 refine GoO.pure (ps_geq rfl rfl rfl) ?_
 refine GoO.nil ?_
 refine GoK.code ?_
 refine GoC.condD rfl (fun h10 => ?_) (fun h10 => ?_)
 replace H := ite_t h10 H
 refine GoC.seq ?_
 refine GoC.region ?_
 refine GoO.pure (ps_move rfl rfl) ?_
 refine GoO.pure (ps_shr rfl rfl rfl (by decide)) ?_
 refine GoO.pure (ps_assign rfl rfl) ?_
 refine GoO.nil ?_
 refine GoK.code ?_
 refine GoC.region ?_
 refine GoO.pure (ps_move rfl rfl) ?_
 have c11 := ck_l H; replace H := ck_r H
 refine GoO.pure (ps_add rfl rfl rfl c11) ?_
 refine GoO.pure (ps_assign rfl rfl) ?_
 refine GoO.nil ?_
 cases H
 exact GoK.meet ⟨rfl, rfl⟩ (EnvD.eq rfl (EnvD.eq rfl (EnvD.nil))) (TkD.nil _)
 replace H := ite_f h10 H
 refine GoC.skip ?_
 cases H
 exact GoK.meet ⟨rfl, rfl⟩ (EnvD.eq rfl (EnvD.eq rfl (EnvD.nil))) (TkD.nil _)
 rintro v h ⟨rfl, rfl⟩
 have H := HK8; clear HK8
 refine GoC.seq ?_
 refine GoC.region ?_
 refine GoO.pure (ps_move rfl rfl) ?_
 refine GoO.pure (ps_move rfl rfl) ?_
 refine GoO.pure (ps_convK rfl rfl) ?_
 have c12 := ck_l H; replace H := ck_r H
 refine GoO.pure (ps_index8 (by kernel_rfl) rfl rfl (by kernel_rfl) c12 rfl) ?_
 refine GoO.pure (ps_convK rfl rfl) ?_
 have c13 := ck_l H; replace H := ck_r H
 refine GoO.pure (ps_add rfl rfl rfl c13) ?_
 refine GoO.pure (ps_assign rfl rfl) ?_
 refine GoO.nil ?_
 refine GoK.code ?_
 obtain rfl := Option.some.inj H
 exact GoC.retL (ds := [.v (.int .i64 (x7 + (IntKind.i64.wrap (len8s.getD ((IntKind.u8.wrap x6)).toNat 0))))]) Try.results88 (ResL.cons (ResD.tmp rfl) (ResL.nil)) (Take.nil _) ⟨rfl, rfl⟩

def bits_Len64_F (p0 : Int) : Option (Int) :=
 ((
  if 4294967296 ≤ p0 then
   some ((Int.fdiv p0 (2 ^ min 32 64)), 32)
  else
   some (p0, 0)) : Option (Int × Int)).bind fun (x1, x2) =>
 ((
  if 65536 ≤ x1 then
   ck (InI (x2 + 16)) <|
   some ((Int.fdiv x1 (2 ^ min 16 64)), (x2 + 16))
  else
   some (x1, x2)) : Option (Int × Int)).bind fun (x6, x7) =>
 ((
  if 256 ≤ x6 then
   ck (InI (x7 + 8)) <|
   some ((Int.fdiv x6 (2 ^ min 8 64)), (x7 + 8))
  else
   some (x6, x7)) : Option (Int × Int)).bind fun (x12, x13) =>
 ck (0 ≤ (IntKind.u8.wrap x12) ∧ (IntKind.u8.wrap x12) < 256) <|
 ck (InI (x13 + (IntKind.i64.wrap (len8s.getD ((IntKind.u8.wrap x12)).toNat 0)))) <|
 some (x13 + (IntKind.i64.wrap (len8s.getD ((IntKind.u8.wrap x12)).toNat 0)))
def bits_Len64_P (out : Int) (d : D) (H : List HL) : Prop := d = .v (.int .i64 out) ∧ H = []
theorem bits_Len64_I (out : Int) : IndepP (bits_Len64_P out) := IndepP.of (by rintro _ _ ⟨rfl, rfl⟩; exact ⟨inferInstance, inferInstance⟩)
set_option maxRecDepth 100000 in
set_option maxHeartbeats 4000000 in
theorem bits_Len64_spec (p0 : Int) {out : Int} (H : bits_Len64_F p0 = some out) : Does Try.prog 89 [.v (.int .u64 p0)] [] (bits_Len64_P out) := by
 unfold bits_Len64_F at H
 refine Does.intro Try.func89 rfl Try.ntmps89 rfl fun w0 I0 => ?_
 refine GoC.seq ?_
 refine GoC.region ?_
 refine GoO.pure (ps_assign rfl rfl) ?_
 refine GoO.nil ?_
 refine GoK.code ?_
 have hb := bind_l H; clear H
 obtain ⟨⟨x1, x2⟩, H, HK3⟩ := hb
 refine GoC.seqJ [] [] (fun v h => v = [(0, .v (.int .u64 x1)), (2, .v (.int .i64 x2))] ∧ h = []) ?_ ?_
 refine GoC.seq ?_
 refine GoC.region ?_
 refine GoO.pure (ps_move rfl rfl) ?_
 refine GoO.pure (ps_geq rfl rfl rfl) ?_
 refine GoO.nil ?_
 refine GoK.code ?_
 refine GoC.condD rfl (fun h5 => ?_) (fun h5 => ?_)
 replace H := ite_t h5 H
 refine GoC.seq ?_
 refine GoC.region ?_
 refine GoO.pure (ps_move rfl rfl) ?_
 refine GoO.pure (ps_shr rfl rfl rfl (by decide)) ?_
 refine GoO.pure (ps_assign rfl rfl) ?_
 refine GoO.nil ?_
 refine GoK.code ?_
 refine GoC.region ?_
 refine GoO.pure (ps_assign rfl rfl) ?_
 refine GoO.nil ?_
 cases H
 exact GoK.meet ⟨rfl, rfl⟩ (EnvD.eq rfl (EnvD.eq rfl (EnvD.nil))) (TkD.nil _)
 replace H := ite_f h5 H
 refine GoC.skip ?_
 cases H
 exact GoK.meet ⟨rfl, rfl⟩ (EnvD.eq rfl (EnvD.eq rfl (EnvD.nil))) (TkD.nil _)
 rintro v h ⟨rfl, rfl⟩
 have H := HK3; clear HK3
 have hb := bind_l H; clear H
 obtain ⟨⟨x6, x7⟩, H, HK8⟩ := hb
 refine GoC.seqJ [] [] (fun v h => v = [(0, .v (.int .u64 x6)), (2, .v (.int .i64 x7))] ∧ h = []) ?_ ?_
 refine GoC.seq ?_
 refine GoC.region ?_
 refine GoO.pure (ps_move rfl rfl) ?_
 refine GoO.pure (ps_geq rfl rfl rfl) ?_
 refine GoO.nil ?_
 refine GoK.code ?_
 refine GoC.condD rfl (fun h10 => ?_) (fun h10 => ?_)
 replace H := ite_t h10 H
 refine GoC.seq ?_
 refine GoC.region ?_
 refine GoO.pure (ps_move rfl rfl) ?_
 refine GoO.pure (ps_shr rfl rfl rfl (by decide)) ?_
 refine GoO.pure (ps_assign rfl rfl) ?_
 refine GoO.nil ?_
 refine GoK.code ?_
 refine GoC.region ?_
 refine GoO.pure (ps_move rfl rfl) ?_
 have c11 := ck_l H; replace H := ck_r H
 refine GoO.pure (ps_add rfl rfl rfl c11) ?_
 refine GoO.pure (ps_assign rfl rfl) ?_
 refine GoO.nil ?_
 cases H
 exact GoK.meet ⟨rfl, rfl⟩ (EnvD.eq rfl (EnvD.eq rfl (EnvD.nil))) (TkD.nil _)
 replace H := ite_f h10 H
 refine GoC.skip ?_
 cases H
 exact GoK.meet ⟨rfl, rfl⟩ (EnvD.eq rfl (EnvD.eq rfl (EnvD.nil))) (TkD.nil _)
 rintro v h ⟨rfl, rfl⟩
 have H := HK8; clear HK8
 have hb := bind_l H; clear H
 obtain ⟨⟨x12, x13⟩, H, HK14⟩ := hb
 refine GoC.seqJ [] [] (fun v h => v = [(0, .v (.int .u64 x12)), (2, .v (.int .i64 x13))] ∧ h = []) ?_ ?_
 refine GoC.seq ?_
 refine GoC.region ?_
 refine GoO.pure (ps_move rfl rfl) ?_
 refine GoO.pure (ps_geq rfl rfl rfl) ?_
 refine GoO.nil ?_
 refine GoK.code ?_
 refine GoC.condD rfl (fun h16 => ?_) (fun h16 => ?_)
 replace H := ite_t h16 H
 refine GoC.seq ?_
 refine GoC.region ?_
 refine GoO.pure (ps_move rfl rfl) ?_
 refine GoO.pure (ps_shr rfl rfl rfl (by decide)) ?_
 refine GoO.pure (ps_assign rfl rfl) ?_
 refine GoO.nil ?_
 refine GoK.code ?_
 refine GoC.region ?_
 refine GoO.pure (ps_move rfl rfl) ?_
 have c17 := ck_l H; replace H := ck_r H
 refine GoO.pure (ps_add rfl rfl rfl c17) ?_
 refine GoO.pure (ps_assign rfl rfl) ?_
 refine GoO.nil ?_
 cases H
 exact GoK.meet ⟨rfl, rfl⟩ (EnvD.eq rfl (EnvD.eq rfl (EnvD.nil))) (TkD.nil _)
 replace H := ite_f h16 H
 refine GoC.skip ?_
 cases H
 exact GoK.meet ⟨rfl, rfl⟩ (EnvD.eq rfl (EnvD.eq rfl (EnvD.nil))) (TkD.nil _)
 rintro v h ⟨rfl, rfl⟩
 have H := HK14; clear HK14
 refine GoC.seq ?_
 refine GoC.region ?_
 refine GoO.pure (ps_move rfl rfl) ?_
 refine GoO.pure (ps_move rfl rfl) ?_
 refine GoO.pure (ps_convK rfl rfl) ?_
 have c18 := ck_l H; replace H := ck_r H
 refine GoO.pure (ps_index8 (by kernel_rfl) rfl rfl (by kernel_rfl) c18 rfl) ?_
 refine GoO.pure (ps_convK rfl rfl) ?_
 have c19 := ck_l H; replace H := ck_r H
 refine GoO.pure (ps_add rfl rfl rfl c19) ?_
 refine GoO.pure (ps_assign rfl rfl) ?_
 refine GoO.nil ?_
 refine GoK.code ?_
 obtain rfl := Option.some.inj H
 exact GoC.retL (ds := [.v (.int .i64 (x13 + (IntKind.i64.wrap (len8s.getD ((IntKind.u8.wrap x12)).toNat 0))))]) Try.results89 (ResL.cons (ResD.tmp rfl) (ResL.nil)) (Take.nil _) ⟨rfl, rfl⟩

def bits_Len_F (p0 : Int) : Option (Int) :=
 (bits_Len64_F p0).bind fun r1 =>
 some r1
def bits_Len_P (out : Int) (d : D) (H : List HL) : Prop := d = .v (.int .i64 out) ∧ H = []
theorem bits_Len_I (out : Int) : IndepP (bits_Len_P out) := IndepP.of (by rintro _ _ ⟨rfl, rfl⟩; exact ⟨inferInstance, inferInstance⟩)
set_option maxRecDepth 100000 in
set_option maxHeartbeats 4000000 in
theorem bits_Len_spec (p0 : Int) {out : Int} (H : bits_Len_F p0 = some out) : Does Try.prog 67 [.v (.int .u64 p0)] [] (bits_Len_P out) := by
 unfold bits_Len_F at H
 refine Does.intro Try.func67 rfl Try.ntmps67 rfl fun w0 I0 => ?_
 refine GoC.seq ?_
 refine GoC.region ?_
 refine GoO.pure (ps_assign rfl rfl) ?_
 refine GoO.nil ?_
 refine GoK.code ?_
 refine GoC.seq ?_
 refine GoC.condF rfl ?_
 refine GoC.skip ?_
 refine GoK.code ?_
 refine GoC.seq ?_
 refine GoC.region ?_
 refine GoO.pure (ps_move rfl rfl) ?_
 have hb := bind_l H; clear H
 obtain ⟨r1, e2, H⟩ := hb
 refine GoO.effC (ef_call rfl (Take.nil _) (Take.nil _) (bits_Len64_spec p0 e2) (LendL.cons (Lend.refl _ _) (LendL.nil)) rfl (bits_Len64_I (r1))) (fun rr HH hp => ?_)
 obtain ⟨rfl, rfl⟩ := hp
 refine GoO.pure (ps_assign rfl rfl) ?_
 refine GoO.nil ?_
 refine GoK.code ?_
 obtain rfl := Option.some.inj H
 exact GoC.retL (ds := [.v (.int .i64 r1)]) Try.results67 (ResL.cons (ResD.tmp rfl) (ResL.nil)) (Take.nil _) ⟨rfl, rfl⟩

def cmp_isNaN_int_F (p0 : Int) : Option (Bool) :=
 some (decide (p0 ≠ p0))
def cmp_isNaN_int_P (out : Bool) (d : D) (H : List HL) : Prop := d = .v (.bool out) ∧ H = []
theorem cmp_isNaN_int_I (out : Bool) : IndepP (cmp_isNaN_int_P out) := IndepP.of (by rintro _ _ ⟨rfl, rfl⟩; exact ⟨inferInstance, inferInstance⟩)
set_option maxRecDepth 100000 in
set_option maxHeartbeats 4000000 in
theorem cmp_isNaN_int_spec (p0 : Int) {out : Bool} (H : cmp_isNaN_int_F p0 = some out) : Does Try.prog 70 [.v (.int .i64 p0)] [] (cmp_isNaN_int_P out) := by
 unfold cmp_isNaN_int_F at H
 refine Does.intro Try.func70 rfl Try.ntmps70 rfl fun w0 I0 => ?_
 refine GoC.seq ?_
 refine GoC.region ?_
 refine GoO.pure (ps_assign rfl rfl) ?_
 refine GoO.nil ?_
 refine GoK.code ?_
 refine GoC.seq ?_
 refine GoC.region ?_
 refine GoO.pure (ps_move rfl rfl) ?_
 refine GoO.pure (ps_move rfl rfl) ?_
 refine GoO.pure (ps_neq rfl rfl rfl) ?_
 refine GoO.pure (ps_assign rfl rfl) ?_
 refine GoO.nil ?_
 refine GoK.code ?_
 obtain rfl := Option.some.inj H
 exact GoC.retL (ds := [.v (.bool (decide (p0 ≠ p0)))]) Try.results70 (ResL.cons (ResD.tmp rfl) (ResL.nil)) (Take.nil _) ⟨rfl, rfl⟩

def cmp_Less_int_F (p0 : Int) (p1 : Int) : Option (Bool) :=
 (cmp_isNaN_int_F p0).bind fun r1 =>
 if r1 = true then
  (cmp_isNaN_int_F p1).bind fun r4 =>
  if (!r4) = true then
   some true
  else
   some (decide (p0 < p1))
 else
  some (decide (p0 < p1))
def cmp_Less_int_P (out : Bool) (d : D) (H : List HL) : Prop := d = .v (.bool out) ∧ H = []
theorem cmp_Less_int_I (out : Bool) : IndepP (cmp_Less_int_P out) := IndepP.of (by rintro _ _ ⟨rfl, rfl⟩; exact ⟨inferInstance, inferInstance⟩)
set_option maxRecDepth 100000 in
set_option maxHeartbeats 4000000 in
theorem cmp_Less_int_spec (p0 : Int) (p1 : Int) {out : Bool} (H : cmp_Less_int_F p0 p1 = some out) : Does Try.prog 85 [.v (.int .i64 p0), .v (.int .i64 p1)] [] (cmp_Less_int_P out) := by
 unfold cmp_Less_int_F at H
 refine Does.intro Try.func85 rfl Try.ntmps85 rfl fun w0 I0 => ?_
 refine GoC.seq ?_
 refine GoC.region ?_
 refine GoO.pure (ps_assign rfl rfl) ?_
 refine GoO.nil ?_
 refine GoK.code ?_
 refine GoC.seq ?_
 refine GoC.region ?_
 refine GoO.pure (ps_move rfl rfl) ?_
 have hb := bind_l H; clear H
 obtain ⟨r1, e2, H⟩ := hb
 refine GoO.effC (ef_call rfl (Take.nil _) (Take.nil _) (cmp_isNaN_int_spec p0 e2) (LendL.cons (Lend.refl _ _) (LendL.nil)) rfl (cmp_isNaN_int_I (r1))) (fun rr HH hp => ?_)
 obtain ⟨rfl, rfl⟩ := hp
 refine GoO.pure (ps_move rfl rfl) ?_
 refine GoO.guard rfl rfl rfl rfl (fun h3 => ?_) (fun h3 => ?_)
 replace H := itb_t h3 H
 refine GoO.pure (ps_move rfl rfl) ?_
 refine GoO.guardT rfl rfl rfl ?_
 have hb := bind_l H; clear H
 obtain ⟨r4, e5, H⟩ := hb
 refine GoO.effC (ef_call rfl (Take.nil _) (Take.nil _) (cmp_isNaN_int_spec p1 e5) (LendL.cons (Lend.refl _ _) (LendL.nil)) rfl (cmp_isNaN_int_I (r4))) (fun rr HH hp => ?_)
 obtain ⟨rfl, rfl⟩ := hp
 refine GoO.guardT rfl rfl rfl ?_
 refine GoO.pure (ps_not rfl rfl) ?_
 refine GoO.pure (ps_pickT rfl rfl rfl) ?_
 refine GoO.pure (ps_move rfl rfl) ?_
 refine GoO.guard rfl rfl rfl rfl (fun h6 => ?_) (fun h6 => ?_)
 replace H := itb_f h6 H
 refine GoO.pure (ps_move rfl rfl) ?_
 refine GoO.guardT rfl rfl rfl ?_
 refine GoO.pure (ps_move rfl rfl) ?_
 refine GoO.guardT rfl rfl rfl ?_
 refine GoO.pure (ps_lss rfl rfl rfl) ?_
 refine GoO.pure (ps_pickF rfl rfl rfl) ?_
 refine GoO.pure (ps_assign rfl rfl) ?_
 refine GoO.nil ?_
 refine GoK.code ?_
 obtain rfl := Option.some.inj H
 exact GoC.retL (ds := [.v (.bool (decide (p0 < p1)))]) Try.results85 (ResL.cons (ResD.tmp rfl) (ResL.nil)) (Take.nil _) ⟨rfl, rfl⟩
 replace H := itb_t h6 H
 refine GoO.guardF rfl rfl rfl rfl ?_
 refine GoO.guardF rfl rfl rfl rfl ?_
 refine GoO.pure (ps_pickT rfl rfl rfl) ?_
 refine GoO.pure (ps_assign rfl rfl) ?_
 refine GoO.nil ?_
 refine GoK.code ?_
 obtain rfl := Option.some.inj H
 exact GoC.retL (ds := [.v (.bool true)]) Try.results85 (ResL.cons (ResD.tmp rfl) (ResL.nil)) (Take.nil _) ⟨rfl, rfl⟩
 replace H := itb_f h3 H
 refine GoO.guardF rfl rfl rfl rfl ?_
 refine GoO.guardF rfl rfl rfl rfl ?_
 refine GoO.pure (ps_pickF rfl rfl rfl) ?_
 refine GoO.pure (ps_move rfl rfl) ?_
 refine GoO.guardT rfl rfl rfl ?_
 refine GoO.pure (ps_move rfl rfl) ?_
 refine GoO.guardT rfl rfl rfl ?_
 refine GoO.pure (ps_move rfl rfl) ?_
 refine GoO.guardT rfl rfl rfl ?_
 refine GoO.pure (ps_lss rfl rfl rfl) ?_
 refine GoO.pure (ps_pickF rfl rfl rfl) ?_
 refine GoO.pure (ps_assign rfl rfl) ?_
 refine GoO.nil ?_
 refine GoK.code ?_
 obtain rfl := Option.some.inj H
 exact GoC.retL (ds := [.v (.bool (decide (p0 < p1)))]) Try.results85 (ResL.cons (ResD.tmp rfl) (ResL.nil)) (Take.nil _) ⟨rfl, rfl⟩

def slices_insertionSortOrdered_int_B2 (p1 : Int) : ((List Int) × Int) → Option (Ct ((List Int) × Int) (Ct ((List Int) × Int) ((List Int)))) := fun (l11, x12) =>
 if p1 < x12 then
  ck (0 ≤ x12 ∧ x12 < ((l11.length : Nat) : Int)) <|
  ck (InI (x12 - 1)) <|
  ck (0 ≤ (x12 - 1) ∧ (x12 - 1) < ((l11.length : Nat) : Int)) <|
  (cmp_Less_int_F (l11.getD x12.toNat (0 : Int)) (l11.getD ((x12 - 1).toNat) (0 : Int))).bind fun r23 =>
  if r23 = true then
   some (.go (((l11.set x12.toNat (l11.getD ((x12 - 1).toNat) (0 : Int))).set ((x12 - 1).toNat) (l11.getD x12.toNat (0 : Int))), (x12 - 1)))
  else
   some (.brk (l11, x12))
 else
  some (.brk (l11, x12))
def slices_insertionSortOrdered_int_B1 (p1 : Int) (p2 : Int) : ((List Int) × Int) → Option (Ct ((List Int) × Int) ((List Int))) := fun (l2, x3) =>
 if x3 < p2 then
  (loopC (slices_insertionSortOrdered_int_B2 p1) 1000000 (l2, x3)).bind fun q => match q with
  | .go (l16, x17) =>
   ck (InI (x3 + 1)) <|
   some (.go (l16, (x3 + 1)))
  | .ret x => some x
 else
  some (.brk (l2, x3))
def slices_insertionSortOrdered_int_F (p0 : (List Int)) (p1 : Int) (p2 : Int) : Option ((List Int)) :=
 ck (InI (p1 + 1)) <|
 (loopC (slices_insertionSortOrdered_int_B1 p1 p2) 1000000 (p0, (p1 + 1))).bind fun q => match q with
 | .go (l7, x8) =>
  some l7
 | .ret x => some x
def slices_insertionSortOrdered_int_P (out : (List Int)) (βp0 : BK) (d : D) (H : List HL) : Prop := d = .tp 0 (nth []) ∧ H = [.one βp0 3 1 (row out)]
theorem slices_insertionSortOrdered_int_I (out : (List Int)) (βp0 : BK) : IndepP (slices_insertionSortOrdered_int_P out βp0) := IndepP.of (by rintro _ _ ⟨rfl, rfl⟩; exact ⟨inferInstance, inferInstance⟩)
set_option maxRecDepth 100000 in
set_option maxHeartbeats 4000000 in
theorem slices_insertionSortOrdered_int_spec (p0 : (List Int)) (p1 : Int) (p2 : Int) (βp0 : BK) {out : (List Int)} (H : slices_insertionSortOrdered_int_F p0 p1 p2 = some out) : Does Try.prog 79 [.own βp0 1 0 p0.length, .v (.int .i64 p1), .v (.int .i64 p2)] [.one βp0 3 1 (row p0)] (slices_insertionSortOrdered_int_P out βp0) := by
 unfold slices_insertionSortOrdered_int_F at H
 refine Does.intro Try.func79 rfl Try.ntmps79 rfl fun w0 I0 => ?_
 refine GoC.seq ?_
 refine GoC.region ?_
 refine GoO.pure (ps_move rfl rfl) ?_
 have c1 := ck_l H; replace H := ck_r H
 refine GoO.pure (ps_add rfl rfl rfl c1) ?_
 refine GoO.pure (ps_assign rfl rfl) ?_
 refine GoO.nil ?_
 refine GoK.code ?_
 have hb := bind_l H; clear H
 obtain ⟨q6, hl28, HK4⟩ := hb
 refine GoC.blockJ [] [] (fun v h => ∃ (l7 : (List Int)) (x8 : Int), q6 = .go (l7, x8) ∧ v = [] ∧ h = [.one βp0 3 1 (row l7)]) ?_ ?_
 refine GoC.loopJ [(1, _), (2, _)] [] (fun mQ v h => ∃ (l2 : (List Int)) (x3 : Int), loopC (slices_insertionSortOrdered_int_B1 p1 p2) mQ (l2, x3) = some q6 ∧ v = [(0, .own βp0 1 0 l2.length), (6, .v (.int .i64 x3))] ∧ h = [.one βp0 3 1 (row l2)]) 1000000 ⟨_, _, hl28, rfl, rfl⟩ (EnvD.cons rfl (DLe.len (by first | rfl | omega | (simp only [row_len, gridC_len, rowO_len] <;> first | rfl | omega))) (EnvD.eq rfl (EnvD.eq rfl (EnvD.eq rfl (EnvD.nil))))) (TkD.cons _ _ _ _ _ Rem.p0 (HLe.refl _) (TkD.nil _)) ?_
 rintro m9 v h ⟨l2, x3, hF5, rfl, rfl⟩
 obtain ⟨m9', rfl⟩ | rfl : (∃ x, m9 = x + 1) ∨ m9 = 0 := by cases m9 <;> simp
 case inr => cases hF5
 have hb := bind_l hF5; clear hF5
 obtain ⟨qrm9, H, hF5⟩ := hb
 refine GoC.seq ?_
 refine GoC.seq ?_
 refine GoC.region ?_
 refine GoO.pure (ps_move rfl rfl) ?_
 refine GoO.pure (ps_move rfl rfl) ?_
 refine GoO.pure (ps_lss rfl rfl rfl) ?_
 refine GoO.nil ?_
 refine GoK.code ?_
 refine GoC.condD rfl (fun h10 => ?_) (fun h10 => ?_)
 replace H := ite_t h10 H
 refine GoC.skip ?_
 refine GoK.code ?_
 refine GoC.seq ?_
 refine GoC.block ?_
 refine GoC.seq ?_
 refine GoC.region ?_
 refine GoO.pure (ps_move rfl rfl) ?_
 refine GoO.pure (ps_assign rfl rfl) ?_
 refine GoO.nil ?_
 refine GoK.code ?_
 have hb := bind_l H; clear H
 obtain ⟨q15, hl26, HK13⟩ := hb
 refine GoC.blockJ [(1, .v (.int .i64 p1)), (2, .v (.int .i64 p2)), (6, .v (.int .i64 x3))] [] (fun v h => ∃ (l16 : (List Int)) (x17 : Int), q15 = .go (l16, x17) ∧ v = [(0, .own βp0 1 0 l16.length)] ∧ h = [.one βp0 3 1 (row l16)]) ?_ ?_
 refine GoC.loopJ [(1, _), (2, _), (6, _)] [] (fun mQ v h => ∃ (l11 : (List Int)) (x12 : Int), loopC (slices_insertionSortOrdered_int_B2 p1) mQ (l11, x12) = some q15 ∧ v = [(0, .own βp0 1 0 l11.length), (7, .v (.int .i64 x12))] ∧ h = [.one βp0 3 1 (row l11)]) 1000000 ⟨_, _, hl26, rfl, rfl⟩ (EnvD.cons rfl (DLe.len (by first | rfl | omega | (simp only [row_len, gridC_len, rowO_len] <;> first | rfl | omega))) (EnvD.eq rfl (EnvD.eq rfl (EnvD.eq rfl (EnvD.eq rfl (EnvD.nil)))))) (TkD.cons _ _ _ _ _ Rem.p0 (HLe.refl _) (TkD.nil _)) ?_
 rintro m18 v h ⟨l11, x12, hF14, rfl, rfl⟩
 obtain ⟨m18', rfl⟩ | rfl : (∃ x, m18 = x + 1) ∨ m18 = 0 := by cases m18 <;> simp
 case inr => cases hF14
 have hb := bind_l hF14; clear hF14
 obtain ⟨qrm18, H, hF14⟩ := hb
 refine GoC.seq ?_
 refine GoC.seq ?_
 refine GoC.drawA (.q 0 (.q 1 (.q 2 (.q 3 (.q 4 (.q 5 (.q 6 (.q 7 (.q 8 (.q 9 (.q 10 (.q 11 (.q 12 (.one 13 (.q 14 (.done)))))))))))))))) follows (by kernel_rfl) ?_
 refine GoP.qN rfl (ps_move rfl rfl) ?_
 refine GoP.qN rfl (ps_move rfl rfl) ?_
 refine GoP.qN rfl (ps_gtr rfl rfl rfl) ?_
 refine GoP.qN rfl (ps_move rfl rfl) ?_
 refine GoP.decideD 19 rfl (fun h19 => ?_) (fun h19 => ?_)
 replace H := ite_t h19 H
 refine GoP.qT rfl rfl rfl rfl (ps_move rfl rfl) ?_
 refine GoP.qT rfl rfl rfl rfl (ps_move rfl rfl) ?_
 have c20 := ck_l H; replace H := ck_r H
 refine GoP.qT rfl rfl rfl rfl (ps_indexAddr0 rfl rfl c20 rfl) ?_
 refine GoP.qT rfl rfl rfl rfl (ps_load rfl At.p0 At.p0 (idx_lt c20) rfl rfl) ?_
 refine GoP.qT rfl rfl rfl rfl (ps_move rfl rfl) ?_
 refine GoP.qT rfl rfl rfl rfl (ps_move rfl rfl) ?_
 have c21 := ck_l H; replace H := ck_r H
 refine GoP.qT rfl rfl rfl rfl (ps_sub rfl rfl rfl c21) ?_
 have c22 := ck_l H; replace H := ck_r H
 refine GoP.qT rfl rfl rfl rfl (ps_indexAddr0 rfl rfl c22 rfl) ?_
 refine GoP.qT rfl rfl rfl rfl (ps_load rfl At.p0 At.p0 (idx_lt c22) rfl rfl) ?_
 have hb := bind_l H; clear H
 obtain ⟨r23, e24, H⟩ := hb
 refine GoP.oneC rfl ⟨_, rfl, rfl, rfl⟩ (ef_call rfl (Take.nil _) (Take.nil _) (cmp_Less_int_spec (l11.getD x12.toNat (0 : Int)) (l11.getD ((x12 - 1).toNat) (0 : Int)) e24) (LendL.cons (Lend.refl _ _) (LendL.cons (Lend.refl _ _) (LendL.nil))) rfl (cmp_Less_int_I (r23))) (Take.cons _ _ _ _ _ Rem.p0 (Take.nil _)) (fun rr HH hp => ?_)
 obtain ⟨rfl, rfl⟩ := hp
 refine GoP.qN rfl (ps_pickT rfl rfl rfl) ?_
 refine GoP.done ?_
 refine GoK.code ?_
 refine GoC.cond rfl (fun h25 => ?_) (fun h25 => ?_)
 replace H := itb_t h25 H
 refine GoC.skip ?_
 refine GoK.code ?_
 refine GoC.seq ?_
 refine GoC.block ?_
 refine GoC.drawP (.q 0 (.q 1 (.q 2 (.q 3 (.q 4 (.q 5 (.q 6 (.q 7 (.q 8 (.q 10 (.q 11 (.q 12 (.two 9 13 (.one 13 (.q 14 (.one 15 (.q 16 (.one 17 (.done)))))) (.one 9 (.q 14 (.one 15 (.q 16 (.one 17 (.done))))))))))))))))))) [] follows (by kernel_rfl) (Take.nil _) ?_
 refine GoP.qN rfl (ps_move rfl rfl) ?_
 refine GoP.qN rfl (ps_move rfl rfl) ?_
 refine GoP.qN rfl (ps_move rfl rfl) ?_
 refine GoP.qN rfl (ps_move rfl rfl) ?_
 refine GoP.qN rfl (ps_sub rfl rfl rfl c21) ?_
 refine GoP.qN rfl (ps_move rfl rfl) ?_
 refine GoP.qN rfl (ps_move rfl rfl) ?_
 refine GoP.qN rfl (ps_sub rfl rfl rfl c21) ?_
 refine GoP.qN rfl (ps_indexAddr0 rfl rfl c22 rfl) ?_
 refine GoP.qN rfl (ps_move rfl rfl) ?_
 refine GoP.qN rfl (ps_move rfl rfl) ?_
 refine GoP.qN rfl (ps_indexAddr0 rfl rfl c20 rfl) ?_
 apply GoP.fork0
 exact rfl
 exact rfl
 exact trivial
 exact trivial
 exact Eff.pure (H1 := [.one βp0 3 1 (row l11)]) (ps_load rfl At.p0 At.p0 (idx_lt c22) rfl rfl)
 exact Eff.pure (H1 := [.one βp0 3 1 (row l11)]) (ps_load rfl At.p0 At.p0 (idx_lt c20) rfl rfl)
 exact (Take.nil _)
 exact (Take.nil _)
 intro hQ
 rintro _ rfl
 refine GoP.oneN rfl (ps_load rfl At.p0 At.p0 (idx_lt c20) rfl rfl) (Take.nil _) ?_
 refine GoP.qN rfl (ps_indexAddr0 rfl rfl c20 rfl) ?_
 refine GoP.one1 rfl trivial (ef_store rfl rfl rfl At.p0 (upd_row1 (v := (l11.getD ((x12 - 1).toNat) (0 : Int))) rfl) (idx_lt c20) rfl) (Take.cons _ _ _ _ _ Rem.p0 (Take.nil _)) ?_
 refine GoP.qN rfl (ps_indexAddr0 rfl rfl c22 rfl) ?_
 refine GoP.one1 rfl trivial (ef_store rfl rfl rfl At.p0 (upd_row1 (v := (l11.getD x12.toNat (0 : Int))) rfl) (lt_len (idx_lt c22) (by first | rfl | omega | (simp only [row_len, gridC_len, rowO_len, List.length_set] <;> first | rfl | omega))) rfl) (Take.cons _ _ _ _ _ Rem.p0 (Take.nil _)) ?_
 exact GoP.done (hQ)
 intro hQ
 rintro _ rfl
 refine GoP.oneN rfl (ps_load rfl At.p0 At.p0 (idx_lt c22) rfl rfl) (Take.nil _) ?_
 refine GoP.qN rfl (ps_indexAddr0 rfl rfl c20 rfl) ?_
 refine GoP.one1 rfl trivial (ef_store rfl rfl rfl At.p0 (upd_row1 (v := (l11.getD ((x12 - 1).toNat) (0 : Int))) rfl) (idx_lt c20) rfl) (Take.cons _ _ _ _ _ Rem.p0 (Take.nil _)) ?_
 refine GoP.qN rfl (ps_indexAddr0 rfl rfl c22 rfl) ?_
 refine GoP.one1 rfl trivial (ef_store rfl rfl rfl At.p0 (upd_row1 (v := (l11.getD x12.toNat (0 : Int))) rfl) (lt_len (idx_lt c22) (by first | rfl | omega | (simp only [row_len, gridC_len, rowO_len, List.length_set] <;> first | rfl | omega))) rfl) (Take.cons _ _ _ _ _ Rem.p0 (Take.nil _)) ?_
 refine GoP.done (GoK.le ?_ (hQ))
 refine Le.ofDW ?_ (TkD.cons _ _ _ _ _ Rem.p0 (HLe.refl _) (TkD.nil _))
 repeat (first | exact EnvLeW.nil | refine EnvLeW.cons rfl ?_ | refine EnvLeW.skip rfl ?_)
 refine GoK.blk ?_
 refine GoK.code ?_
 refine GoC.region ?_
 refine GoO.pure (ps_move rfl rfl) ?_
 refine GoO.pure (ps_sub rfl rfl rfl c21) ?_
 refine GoO.pure (ps_assign rfl rfl) ?_
 refine GoO.nil ?_
 obtain rfl := Option.some.inj H
 exact GoK.againJ m18' (by omega) ⟨_, _, hF14, rfl, rfl⟩ (EnvD.cons rfl (DLe.len (by first | rfl | omega | (simp only [row_len, gridC_len, rowO_len, List.length_set] <;> first | rfl | omega))) (EnvD.eq rfl (EnvD.eq rfl (EnvD.eq rfl (EnvD.eq rfl (EnvD.nil)))))) (TkD.cons _ _ _ _ _ Rem.p0 (HLe.refl _) (TkD.nil _))
 replace H := itb_f h25 H
 refine GoC.exit rfl ?_
 obtain rfl := Option.some.inj H
 obtain rfl := Option.some.inj hF14
 exact GoK.meet ⟨_, _, rfl, rfl, rfl⟩ (EnvD.cons rfl (DLe.len (by first | rfl | omega | (simp only [row_len, gridC_len, rowO_len] <;> first | rfl | omega))) (EnvD.eq rfl (EnvD.eq rfl (EnvD.eq rfl (EnvD.nil))))) (TkD.cons _ _ _ _ _ Rem.p0 (HLe.refl _) (TkD.nil _))
 replace H := ite_f h19 H
 refine GoP.qF rfl rfl rfl rfl rfl ?_
 refine GoP.qF rfl rfl rfl rfl rfl ?_
 refine GoP.qF rfl rfl rfl rfl rfl ?_
 refine GoP.qF rfl rfl rfl rfl rfl ?_
 refine GoP.qF rfl rfl rfl rfl rfl ?_
 refine GoP.qF rfl rfl rfl rfl rfl ?_
 refine GoP.qF rfl rfl rfl rfl rfl ?_
 refine GoP.qF rfl rfl rfl rfl rfl ?_
 refine GoP.qF rfl rfl rfl rfl rfl ?_
 refine GoP.oneF rfl rfl rfl rfl rfl ?_
 refine GoP.qN rfl (ps_pickF rfl rfl rfl) ?_
 refine GoP.done ?_
 refine GoK.code ?_
 refine GoC.condF rfl ?_
 refine GoC.exit rfl ?_
 obtain rfl := Option.some.inj H
 obtain rfl := Option.some.inj hF14
 exact GoK.meet ⟨_, _, rfl, rfl, rfl⟩ (EnvD.cons rfl (DLe.len (by first | rfl | omega | (simp only [row_len, gridC_len, rowO_len] <;> first | rfl | omega))) (EnvD.eq rfl (EnvD.eq rfl (EnvD.eq rfl (EnvD.nil))))) (TkD.cons _ _ _ _ _ Rem.p0 (HLe.refl _) (TkD.nil _))
 rintro v h ⟨l16, x17, rfl, rfl, rfl⟩
 have H := HK13; clear HK13
 refine GoK.blk ?_
 refine GoK.code ?_
 refine GoC.region ?_
 refine GoO.pure (ps_move rfl rfl) ?_
 have c27 := ck_l H; replace H := ck_r H
 refine GoO.pure (ps_add rfl rfl rfl c27) ?_
 refine GoO.pure (ps_assign rfl rfl) ?_
 refine GoO.nil ?_
 obtain rfl := Option.some.inj H
 exact GoK.againJ m9' (by omega) ⟨_, _, hF5, rfl, rfl⟩ (EnvD.cons rfl (DLe.len (by first | rfl | omega | (simp only [row_len, gridC_len, rowO_len] <;> first | rfl | omega))) (EnvD.eq rfl (EnvD.eq rfl (EnvD.eq rfl (EnvD.nil))))) (TkD.cons _ _ _ _ _ Rem.p0 (HLe.refl _) (TkD.nil _))
 replace H := ite_f h10 H
 refine GoC.exit rfl ?_
 obtain rfl := Option.some.inj H
 obtain rfl := Option.some.inj hF5
 exact GoK.meet ⟨_, _, rfl, rfl, rfl⟩ (EnvD.nil) (TkD.cons _ _ _ _ _ Rem.p0 (HLe.refl _) (TkD.nil _))
 rintro v h ⟨l7, x8, rfl, rfl, rfl⟩
 have H := HK4; clear HK4
 obtain rfl := Option.some.inj H
 exact GoK.retL (ds := []) Try.results79 (ResL.nil) (Take.cons _ _ _ _ _ Rem.p0 (Take.nil _)) ⟨rfl, rfl⟩

def slices_siftDownOrdered_int_B1 (p2 : Int) (p3 : Int) : ((List Int) × Int) → Option (Ct ((List Int) × Int) ((List Int))) := fun (l1, x2) =>
 ck (InI (2 * x2)) <|
 ck (InI ((2 * x2) + 1)) <|
 if p2 ≤ ((2 * x2) + 1) then
  some (.brk (l1, x2))
 else
  ((
   ck (InI (((2 * x2) + 1) + 1)) <|
   if (((2 * x2) + 1) + 1) < p2 then
    ck (InI (p3 + ((2 * x2) + 1))) <|
    ck (0 ≤ (p3 + ((2 * x2) + 1)) ∧ (p3 + ((2 * x2) + 1)) < ((l1.length : Nat) : Int)) <|
    ck (InI ((p3 + ((2 * x2) + 1)) + 1)) <|
    ck (0 ≤ ((p3 + ((2 * x2) + 1)) + 1) ∧ ((p3 + ((2 * x2) + 1)) + 1) < ((l1.length : Nat) : Int)) <|
    (cmp_Less_int_F (l1.getD ((p3 + ((2 * x2) + 1)).toNat) (0 : Int)) (l1.getD (((p3 + ((2 * x2) + 1)) + 1).toNat) (0 : Int))).bind fun r21 =>
    if r21 = true then
     some (((2 * x2) + 1) + 1)
    else
     some ((2 * x2) + 1)
   else
    some ((2 * x2) + 1)) : Option (Int)).bind fun x12 =>
  ck (InI (p3 + x2)) <|
  ck (0 ≤ (p3 + x2) ∧ (p3 + x2) < ((l1.length : Nat) : Int)) <|
  ck (InI (p3 + x12)) <|
  ck (0 ≤ (p3 + x12) ∧ (p3 + x12) < ((l1.length : Nat) : Int)) <|
  (cmp_Less_int_F (l1.getD ((p3 + x2).toNat) (0 : Int)) (l1.getD ((p3 + x12).toNat) (0 : Int))).bind fun r28 =>
  if (!r28) = true then
   some (.ret l1)
  else
   some (.go (((l1.set ((p3 + x2).toNat) (l1.getD ((p3 + x12).toNat) (0 : Int))).set ((p3 + x12).toNat) (l1.getD ((p3 + x2).toNat) (0 : Int))), x12))
def slices_siftDownOrdered_int_F (p0 : (List Int)) (p1 : Int) (p2 : Int) (p3 : Int) : Option ((List Int)) :=
 (loopC (slices_siftDownOrdered_int_B1 p2 p3) 1000000 (p0, p1)).bind fun q => match q with
 | .go (l6, x7) =>
  some l6
 | .ret x => some x
def slices_siftDownOrdered_int_P (out : (List Int)) (βp0 : BK) (d : D) (H : List HL) : Prop := d = .tp 0 (nth []) ∧ H = [.one βp0 3 1 (row out)]
theorem slices_siftDownOrdered_int_I (out : (List Int)) (βp0 : BK) : IndepP (slices_siftDownOrdered_int_P out βp0) := IndepP.of (by rintro _ _ ⟨rfl, rfl⟩; exact ⟨inferInstance, inferInstance⟩)
set_option maxRecDepth 100000 in
set_option maxHeartbeats 4000000 in
theorem slices_siftDownOrdered_int_spec (p0 : (List Int)) (p1 : Int) (p2 : Int) (p3 : Int) (βp0 : BK) {out : (List Int)} (H : slices_siftDownOrdered_int_F p0 p1 p2 p3 = some out) : Does Try.prog 101 [.own βp0 1 0 p0.length, .v (.int .i64 p1), .v (.int .i64 p2), .v (.int .i64 p3)] [.one βp0 3 1 (row p0)] (slices_siftDownOrdered_int_P out βp0) := by
 unfold slices_siftDownOrdered_int_F at H
 refine Does.intro Try.func101 rfl Try.ntmps101 rfl fun w0 I0 => ?_
 refine GoC.seq ?_
 refine GoC.region ?_
 refine GoO.pure (ps_move rfl rfl) ?_
 refine GoO.pure (ps_assign rfl rfl) ?_
 refine GoO.nil ?_
 refine GoK.code ?_
 have hb := bind_l H; clear H
 obtain ⟨q5, hl31, HK3⟩ := hb
 refine GoC.blockJ [] [] (fun v h => ∃ (l6 : (List Int)) (x7 : Int), q5 = .go (l6, x7) ∧ v = [] ∧ h = [.one βp0 3 1 (row l6)]) ?_ ?_
 refine GoC.loopJ [(2, _), (3, _)] [] (fun mQ v h => ∃ (l1 : (List Int)) (x2 : Int), loopC (slices_siftDownOrdered_int_B1 p2 p3) mQ (l1, x2) = some q5 ∧ v = [(0, .own βp0 1 0 l1.length), (8, .v (.int .i64 x2))] ∧ h = [.one βp0 3 1 (row l1)]) 1000000 ⟨_, _, hl31, rfl, rfl⟩ (EnvD.cons rfl (DLe.len (by first | rfl | omega | (simp only [row_len, gridC_len, rowO_len] <;> first | rfl | omega))) (EnvD.eq rfl (EnvD.eq rfl (EnvD.eq rfl (EnvD.nil))))) (TkD.cons _ _ _ _ _ Rem.p0 (HLe.refl _) (TkD.nil _)) ?_
 rintro m8 v h ⟨l1, x2, hF4, rfl, rfl⟩
 obtain ⟨m8', rfl⟩ | rfl : (∃ x, m8 = x + 1) ∨ m8 = 0 := by cases m8 <;> simp
 case inr => cases hF4
 have hb := bind_l hF4; clear hF4
 obtain ⟨qrm8, H, hF4⟩ := hb
 refine GoC.block ?_
 refine GoC.seq ?_
 refine GoC.region ?_
 refine GoO.pure (ps_move rfl rfl) ?_
 have c9 := ck_l H; replace H := ck_r H
 refine GoO.pure (ps_mul rfl rfl rfl c9) ?_
 have c10 := ck_l H; replace H := ck_r H
 refine GoO.pure (ps_add rfl rfl rfl c10) ?_
 refine GoO.pure (ps_assign rfl rfl) ?_
 refine GoO.nil ?_
 refine GoK.code ?_
 refine GoC.seq ?_
 refine GoC.seq ?_
 refine GoC.region ?_
 refine GoO.pure (ps_move rfl rfl) ?_
 refine GoO.pure (ps_move rfl rfl) ?_
 refine GoO.pure (ps_geq rfl rfl rfl) ?_
 refine GoO.nil ?_
 refine GoK.code ?_
 refine GoC.condD rfl (fun h11 => ?_) (fun h11 => ?_)
 replace H := ite_t h11 H
 refine GoC.exit rfl ?_
 obtain rfl := Option.some.inj H
 obtain rfl := Option.some.inj hF4
 exact GoK.meet ⟨_, _, rfl, rfl, rfl⟩ (EnvD.nil) (TkD.cons _ _ _ _ _ Rem.p0 (HLe.refl _) (TkD.nil _))
 replace H := ite_f h11 H
 refine GoC.skip ?_
 refine GoK.code ?_
 have hb := bind_l H; clear H
 obtain ⟨x12, H, HK13⟩ := hb
 refine GoC.seqJ [(0, .own βp0 1 0 l1.length), (2, .v (.int .i64 p2)), (3, .v (.int .i64 p3)), (8, .v (.int .i64 x2))] [.one βp0 3 1 (row l1)] (fun v h => v = [(9, .v (.int .i64 x12))] ∧ h = []) ?_ ?_
 refine GoC.seq ?_
 refine GoC.drawA (.q 0 (.q 1 (.q 2 (.q 3 (.q 4 (.q 5 (.q 6 (.q 7 (.q 8 (.q 9 (.q 10 (.q 11 (.q 12 (.q 13 (.q 14 (.q 15 (.q 16 (.q 17 (.one 18 (.q 19 (.done))))))))))))))))))))) follows (by kernel_rfl) ?_
 refine GoP.qN rfl (ps_move rfl rfl) ?_
 have c15 := ck_l H; replace H := ck_r H
 refine GoP.qN rfl (ps_add rfl rfl rfl c15) ?_
 refine GoP.qN rfl (ps_move rfl rfl) ?_
 refine GoP.qN rfl (ps_lss rfl rfl rfl) ?_
 refine GoP.qN rfl (ps_move rfl rfl) ?_
 refine GoP.decideD 21 rfl (fun h16 => ?_) (fun h16 => ?_)
 replace H := ite_t h16 H
 refine GoP.qT rfl rfl rfl rfl (ps_move rfl rfl) ?_
 refine GoP.qT rfl rfl rfl rfl (ps_move rfl rfl) ?_
 refine GoP.qT rfl rfl rfl rfl (ps_move rfl rfl) ?_
 have c17 := ck_l H; replace H := ck_r H
 refine GoP.qT rfl rfl rfl rfl (ps_add rfl rfl rfl c17) ?_
 have c18 := ck_l H; replace H := ck_r H
 refine GoP.qT rfl rfl rfl rfl (ps_indexAddr0 rfl rfl c18 rfl) ?_
 refine GoP.qT rfl rfl rfl rfl (ps_load rfl At.p0 At.p0 (idx_lt c18) rfl rfl) ?_
 refine GoP.qT rfl rfl rfl rfl (ps_move rfl rfl) ?_
 refine GoP.qT rfl rfl rfl rfl (ps_move rfl rfl) ?_
 refine GoP.qT rfl rfl rfl rfl (ps_move rfl rfl) ?_
 refine GoP.qT rfl rfl rfl rfl (ps_add rfl rfl rfl c17) ?_
 have c19 := ck_l H; replace H := ck_r H
 refine GoP.qT rfl rfl rfl rfl (ps_add rfl rfl rfl c19) ?_
 have c20 := ck_l H; replace H := ck_r H
 refine GoP.qT rfl rfl rfl rfl (ps_indexAddr0 rfl rfl c20 rfl) ?_
 refine GoP.qT rfl rfl rfl rfl (ps_load rfl At.p0 At.p0 (idx_lt c20) rfl rfl) ?_
 have hb := bind_l H; clear H
 obtain ⟨r21, e22, H⟩ := hb
 refine GoP.oneC rfl ⟨_, rfl, rfl, rfl⟩ (ef_call rfl (Take.nil _) (Take.nil _) (cmp_Less_int_spec (l1.getD ((p3 + ((2 * x2) + 1)).toNat) (0 : Int)) (l1.getD (((p3 + ((2 * x2) + 1)) + 1).toNat) (0 : Int)) e22) (LendL.cons (Lend.refl _ _) (LendL.cons (Lend.refl _ _) (LendL.nil))) rfl (cmp_Less_int_I (r21))) (Take.cons _ _ _ _ _ Rem.p0 (Take.nil _)) (fun rr HH hp => ?_)
 obtain ⟨rfl, rfl⟩ := hp
 refine GoP.qN rfl (ps_pickT rfl rfl rfl) ?_
 refine GoP.done ?_
 refine GoK.code ?_
 refine GoC.cond rfl (fun h23 => ?_) (fun h23 => ?_)
 replace H := itb_t h23 H
 refine GoC.region ?_
 refine GoO.pure (ps_move rfl rfl) ?_
 refine GoO.pure (ps_add rfl rfl rfl c15) ?_
 refine GoO.pure (ps_assign rfl rfl) ?_
 refine GoO.nil ?_
 cases H
 exact GoK.meet ⟨rfl, rfl⟩ (EnvD.eq rfl (EnvD.eq rfl (EnvD.eq rfl (EnvD.eq rfl (EnvD.eq rfl (EnvD.nil)))))) (TkD.cons _ _ _ _ _ Rem.p0 (HLe.refl _) (TkD.nil _))
 replace H := itb_f h23 H
 refine GoC.skip ?_
 cases H
 exact GoK.meet ⟨rfl, rfl⟩ (EnvD.eq rfl (EnvD.eq rfl (EnvD.eq rfl (EnvD.eq rfl (EnvD.eq rfl (EnvD.nil)))))) (TkD.cons _ _ _ _ _ Rem.p0 (HLe.refl _) (TkD.nil _))
 replace H := ite_f h16 H
 refine GoP.qF rfl rfl rfl rfl rfl ?_
 refine GoP.qF rfl rfl rfl rfl rfl ?_
 refine GoP.qF rfl rfl rfl rfl rfl ?_
 refine GoP.qF rfl rfl rfl rfl rfl ?_
 refine GoP.qF rfl rfl rfl rfl rfl ?_
 refine GoP.qF rfl rfl rfl rfl rfl ?_
 refine GoP.qF rfl rfl rfl rfl rfl ?_
 refine GoP.qF rfl rfl rfl rfl rfl ?_
 refine GoP.qF rfl rfl rfl rfl rfl ?_
 refine GoP.qF rfl rfl rfl rfl rfl ?_
 refine GoP.qF rfl rfl rfl rfl rfl ?_
 refine GoP.qF rfl rfl rfl rfl rfl ?_
 refine GoP.qF rfl rfl rfl rfl rfl ?_
 refine GoP.oneF rfl rfl rfl rfl rfl ?_
 refine GoP.qN rfl (ps_pickF rfl rfl rfl) ?_
 refine GoP.done ?_
 refine GoK.code ?_
 refine GoC.condF rfl ?_
 refine GoC.skip ?_
 cases H
 exact GoK.meet ⟨rfl, rfl⟩ (EnvD.eq rfl (EnvD.eq rfl (EnvD.eq rfl (EnvD.eq rfl (EnvD.eq rfl (EnvD.nil)))))) (TkD.cons _ _ _ _ _ Rem.p0 (HLe.refl _) (TkD.nil _))
 rintro v h ⟨rfl, rfl⟩
 have H := HK13; clear HK13
 refine GoC.seq ?_
 refine GoC.seq ?_
 refine GoC.drawA (.q 0 (.q 1 (.q 2 (.q 3 (.q 4 (.q 5 (.q 6 (.q 7 (.q 8 (.q 9 (.q 10 (.q 11 (.one 12 (.q 13 (.done))))))))))))))) follows (by kernel_rfl) ?_
 refine GoP.qN rfl (ps_move rfl rfl) ?_
 refine GoP.qN rfl (ps_move rfl rfl) ?_
 refine GoP.qN rfl (ps_move rfl rfl) ?_
 have c24 := ck_l H; replace H := ck_r H
 refine GoP.qN rfl (ps_add rfl rfl rfl c24) ?_
 have c25 := ck_l H; replace H := ck_r H
 refine GoP.qN rfl (ps_indexAddr0 rfl rfl c25 rfl) ?_
 refine GoP.qN rfl (ps_load rfl At.p0 At.p0 (idx_lt c25) rfl rfl) ?_
 refine GoP.qN rfl (ps_move rfl rfl) ?_
 refine GoP.qN rfl (ps_move rfl rfl) ?_
 refine GoP.qN rfl (ps_move rfl rfl) ?_
 have c26 := ck_l H; replace H := ck_r H
 refine GoP.qN rfl (ps_add rfl rfl rfl c26) ?_
 have c27 := ck_l H; replace H := ck_r H
 refine GoP.qN rfl (ps_indexAddr0 rfl rfl c27 rfl) ?_
 refine GoP.qN rfl (ps_load rfl At.p0 At.p0 (idx_lt c27) rfl rfl) ?_
 have hb := bind_l H; clear H
 obtain ⟨r28, e29, H⟩ := hb
 refine GoP.oneC rfl trivial (ef_call rfl (Take.nil _) (Take.nil _) (cmp_Less_int_spec (l1.getD ((p3 + x2).toNat) (0 : Int)) (l1.getD ((p3 + x12).toNat) (0 : Int)) e29) (LendL.cons (Lend.refl _ _) (LendL.cons (Lend.refl _ _) (LendL.nil))) rfl (cmp_Less_int_I (r28))) (Take.cons _ _ _ _ _ Rem.p0 (Take.nil _)) (fun rr HH hp => ?_)
 obtain ⟨rfl, rfl⟩ := hp
 refine GoP.qN rfl (ps_not rfl rfl) ?_
 refine GoP.done ?_
 refine GoK.code ?_
 refine GoC.cond rfl (fun h30 => ?_) (fun h30 => ?_)
 replace H := itb_t h30 H
 obtain rfl := Option.some.inj H
 obtain rfl := Option.some.inj hF4
 obtain rfl := Option.some.inj HK3
 exact GoC.retL (ds := []) Try.results101 (ResL.nil) (Take.cons _ _ _ _ _ Rem.p0 (Take.nil _)) ⟨rfl, rfl⟩
 replace H := itb_f h30 H
 refine GoC.skip ?_
 refine GoK.code ?_
 refine GoC.seq ?_
 refine GoC.drawP (.q 0 (.q 1 (.q 2 (.q 3 (.q 4 (.q 5 (.q 6 (.q 7 (.q 8 (.q 9 (.q 10 (.q 11 (.q 12 (.q 14 (.q 15 (.q 16 (.q 17 (.q 18 (.two 13 19 (.one 19 (.q 20 (.one 21 (.q 22 (.one 23 (.done)))))) (.one 13 (.q 20 (.one 21 (.q 22 (.one 23 (.done))))))))))))))))))))))))) [] follows (by kernel_rfl) (Take.nil _) ?_
 refine GoP.qN rfl (ps_move rfl rfl) ?_
 refine GoP.qN rfl (ps_move rfl rfl) ?_
 refine GoP.qN rfl (ps_move rfl rfl) ?_
 refine GoP.qN rfl (ps_add rfl rfl rfl c24) ?_
 refine GoP.qN rfl (ps_move rfl rfl) ?_
 refine GoP.qN rfl (ps_move rfl rfl) ?_
 refine GoP.qN rfl (ps_move rfl rfl) ?_
 refine GoP.qN rfl (ps_add rfl rfl rfl c26) ?_
 refine GoP.qN rfl (ps_move rfl rfl) ?_
 refine GoP.qN rfl (ps_move rfl rfl) ?_
 refine GoP.qN rfl (ps_move rfl rfl) ?_
 refine GoP.qN rfl (ps_add rfl rfl rfl c26) ?_
 refine GoP.qN rfl (ps_indexAddr0 rfl rfl c27 rfl) ?_
 refine GoP.qN rfl (ps_move rfl rfl) ?_
 refine GoP.qN rfl (ps_move rfl rfl) ?_
 refine GoP.qN rfl (ps_move rfl rfl) ?_
 refine GoP.qN rfl (ps_add rfl rfl rfl c24) ?_
 refine GoP.qN rfl (ps_indexAddr0 rfl rfl c25 rfl) ?_
 apply GoP.fork0
 exact rfl
 exact rfl
 exact trivial
 exact trivial
 exact Eff.pure (H1 := [.one βp0 3 1 (row l1)]) (ps_load rfl At.p0 At.p0 (idx_lt c27) rfl rfl)
 exact Eff.pure (H1 := [.one βp0 3 1 (row l1)]) (ps_load rfl At.p0 At.p0 (idx_lt c25) rfl rfl)
 exact (Take.nil _)
 exact (Take.nil _)
 intro hQ
 rintro _ rfl
 refine GoP.oneN rfl (ps_load rfl At.p0 At.p0 (idx_lt c25) rfl rfl) (Take.nil _) ?_
 refine GoP.qN rfl (ps_indexAddr0 rfl rfl c25 rfl) ?_
 refine GoP.one1 rfl trivial (ef_store rfl rfl rfl At.p0 (upd_row1 (v := (l1.getD ((p3 + x12).toNat) (0 : Int))) rfl) (idx_lt c25) rfl) (Take.cons _ _ _ _ _ Rem.p0 (Take.nil _)) ?_
 refine GoP.qN rfl (ps_indexAddr0 rfl rfl c27 rfl) ?_
 refine GoP.one1 rfl trivial (ef_store rfl rfl rfl At.p0 (upd_row1 (v := (l1.getD ((p3 + x2).toNat) (0 : Int))) rfl) (lt_len (idx_lt c27) (by first | rfl | omega | (simp only [row_len, gridC_len, rowO_len, List.length_set] <;> first | rfl | omega))) rfl) (Take.cons _ _ _ _ _ Rem.p0 (Take.nil _)) ?_
 exact GoP.done (hQ)
 intro hQ
 rintro _ rfl
 refine GoP.oneN rfl (ps_load rfl At.p0 At.p0 (idx_lt c27) rfl rfl) (Take.nil _) ?_
 refine GoP.qN rfl (ps_indexAddr0 rfl rfl c25 rfl) ?_
 refine GoP.one1 rfl trivial (ef_store rfl rfl rfl At.p0 (upd_row1 (v := (l1.getD ((p3 + x12).toNat) (0 : Int))) rfl) (idx_lt c25) rfl) (Take.cons _ _ _ _ _ Rem.p0 (Take.nil _)) ?_
 refine GoP.qN rfl (ps_indexAddr0 rfl rfl c27 rfl) ?_
 refine GoP.one1 rfl trivial (ef_store rfl rfl rfl At.p0 (upd_row1 (v := (l1.getD ((p3 + x2).toNat) (0 : Int))) rfl) (lt_len (idx_lt c27) (by first | rfl | omega | (simp only [row_len, gridC_len, rowO_len, List.length_set] <;> first | rfl | omega))) rfl) (Take.cons _ _ _ _ _ Rem.p0 (Take.nil _)) ?_
 refine GoP.done (GoK.le ?_ (hQ))
 refine Le.ofDW ?_ (TkD.cons _ _ _ _ _ Rem.p0 (HLe.refl _) (TkD.nil _))
 repeat (first | exact EnvLeW.nil | refine EnvLeW.cons rfl ?_ | refine EnvLeW.skip rfl ?_)
 refine GoK.code ?_
 refine GoC.region ?_
 refine GoO.pure (ps_move rfl rfl) ?_
 refine GoO.pure (ps_assign rfl rfl) ?_
 refine GoO.nil ?_
 refine GoK.blk ?_
 obtain rfl := Option.some.inj H
 exact GoK.againJ m8' (by omega) ⟨_, _, hF4, rfl, rfl⟩ (EnvD.cons rfl (DLe.len (by first | rfl | omega | (simp only [row_len, gridC_len, rowO_len, List.length_set] <;> first | rfl | omega))) (EnvD.eq rfl (EnvD.eq rfl (EnvD.eq rfl (EnvD.nil))))) (TkD.cons _ _ _ _ _ Rem.p0 (HLe.refl _) (TkD.nil _))
 rintro v h ⟨l6, x7, rfl, rfl, rfl⟩
 have H := HK3; clear HK3
 obtain rfl := Option.some.inj H
 exact GoK.retL (ds := []) Try.results101 (ResL.nil) (Take.cons _ _ _ _ _ Rem.p0 (Take.nil _)) ⟨rfl, rfl⟩

def slices_heapSortOrdered_int_B1 (p1 : Int) (p2 : Int) : ((List Int) × Int) → Option (Ct ((List Int) × Int) ((List Int))) := fun (l4, x5) =>
 if 0 ≤ x5 then
  (slices_siftDownOrdered_int_F l4 x5 (p2 - p1) p1).bind fun l13 =>
  ck (l13.length = l4.length) <|
  ck (InI (x5 - 1)) <|
  some (.go (l13, (x5 - 1)))
 else
  some (.brk (l4, x5))
def slices_heapSortOrdered_int_B2 (p1 : Int) : ((List Int) × Int) → Option (Ct ((List Int) × Int) ((List Int))) := fun (l18, x19) =>
 if 0 ≤ x19 then
  ck (InI (p1 + x19)) <|
  ck (0 ≤ (p1 + x19) ∧ (p1 + x19) < ((l18.length : Nat) : Int)) <|
  ck (0 ≤ p1 ∧ p1 < ((l18.length : Nat) : Int)) <|
  (slices_siftDownOrdered_int_F ((l18.set p1.toNat (l18.getD ((p1 + x19).toNat) (0 : Int))).set ((p1 + x19).toNat) (l18.getD p1.toNat (0 : Int))) 0 x19 p1).bind fun l30 =>
  ck (l30.length = l18.length) <|
  ck (InI (x19 - 1)) <|
  some (.go (l30, (x19 - 1)))
 else
  some (.brk (l18, x19))
def slices_heapSortOrdered_int_F (p0 : (List Int)) (p1 : Int) (p2 : Int) : Option ((List Int)) :=
 ck (InI (p2 - p1)) <|
 ck (InI ((p2 - p1) - 1)) <|
 ck (InI (Int.tdiv ((p2 - p1) - 1) 2)) <|
 (loopC (slices_heapSortOrdered_int_B1 p1 p2) 1000000 (p0, (Int.tdiv ((p2 - p1) - 1) 2))).bind fun q => match q with
 | .go (l9, x10) =>
  (loopC (slices_heapSortOrdered_int_B2 p1) 1000000 (l9, ((p2 - p1) - 1))).bind fun q => match q with
  | .go (l23, x24) =>
   some l23
  | .ret x => some x
 | .ret x => some x
def slices_heapSortOrdered_int_P (out : (List Int)) (βp0 : BK) (d : D) (H : List HL) : Prop := d = .tp 0 (nth []) ∧ H = [.one βp0 3 1 (row out)]
theorem slices_heapSortOrdered_int_I (out : (List Int)) (βp0 : BK) : IndepP (slices_heapSortOrdered_int_P out βp0) := IndepP.of (by rintro _ _ ⟨rfl, rfl⟩; exact ⟨inferInstance, inferInstance⟩)
set_option maxRecDepth 100000 in
set_option maxHeartbeats 4000000 in
theorem slices_heapSortOrdered_int_spec (p0 : (List Int)) (p1 : Int) (p2 : Int) (βp0 : BK) {out : (List Int)} (H : slices_heapSortOrdered_int_F p0 p1 p2 = some out) : Does Try.prog 80 [.own βp0 1 0 p0.length, .v (.int .i64 p1), .v (.int .i64 p2)] [.one βp0 3 1 (row p0)] (slices_heapSortOrdered_int_P out βp0) := by
 unfold slices_heapSortOrdered_int_F at H
 refine Does.intro Try.func80 rfl Try.ntmps80 rfl fun w0 I0 => ?_
 refine GoC.seq ?_
 refine GoC.region ?_
 refine GoO.pure (ps_move rfl rfl) ?_
 refine GoO.pure (ps_assign rfl rfl) ?_
 refine GoO.nil ?_
 refine GoK.code ?_
 refine GoC.seq ?_
 refine GoC.region ?_
 refine GoO.pure (ps_assign rfl rfl) ?_
 refine GoO.nil ?_
 refine GoK.code ?_
 refine GoC.seq ?_
 refine GoC.region ?_
 refine GoO.pure (ps_move rfl rfl) ?_
 refine GoO.pure (ps_move rfl rfl) ?_
 have c1 := ck_l H; replace H := ck_r H
 refine GoO.pure (ps_sub rfl rfl rfl c1) ?_
 refine GoO.pure (ps_assign rfl rfl) ?_
 refine GoO.nil ?_
 refine GoK.code ?_
 refine GoC.seq ?_
 refine GoC.seq ?_
 refine GoC.region ?_
 refine GoO.pure (ps_move rfl rfl) ?_
 have c2 := ck_l H; replace H := ck_r H
 refine GoO.pure (ps_sub rfl rfl rfl c2) ?_
 have c3 := ck_l H; replace H := ck_r H
 refine GoO.pure (ps_quo rfl rfl rfl (by decide) c3) ?_
 refine GoO.pure (ps_assign rfl rfl) ?_
 refine GoO.nil ?_
 refine GoK.code ?_
 have hb := bind_l H; clear H
 obtain ⟨q8, hl17, HK6⟩ := hb
 refine GoC.blockJ [(6, .v (.int .i64 p1)), (7, .v (.int .i64 0)), (8, .v (.int .i64 (p2 - p1)))] [] (fun v h => ∃ (l9 : (List Int)) (x10 : Int), q8 = .go (l9, x10) ∧ v = [(0, .own βp0 1 0 l9.length)] ∧ h = [.one βp0 3 1 (row l9)]) ?_ ?_
 refine GoC.loopJ [(6, _), (7, _), (8, _)] [] (fun mQ v h => ∃ (l4 : (List Int)) (x5 : Int), loopC (slices_heapSortOrdered_int_B1 p1 p2) mQ (l4, x5) = some q8 ∧ v = [(0, .own βp0 1 0 l4.length), (9, .v (.int .i64 x5))] ∧ h = [.one βp0 3 1 (row l4)]) 1000000 ⟨_, _, hl17, rfl, rfl⟩ (EnvD.cons rfl (DLe.len (by first | rfl | omega | (simp only [row_len, gridC_len, rowO_len] <;> first | rfl | omega))) (EnvD.eq rfl (EnvD.eq rfl (EnvD.eq rfl (EnvD.eq rfl (EnvD.nil)))))) (TkD.cons _ _ _ _ _ Rem.p0 (HLe.refl _) (TkD.nil _)) ?_
 rintro m11 v h ⟨l4, x5, hF7, rfl, rfl⟩
 obtain ⟨m11', rfl⟩ | rfl : (∃ x, m11 = x + 1) ∨ m11 = 0 := by cases m11 <;> simp
 case inr => cases hF7
 have hb := bind_l hF7; clear hF7
 obtain ⟨qrm11, H, hF7⟩ := hb
 refine GoC.seq ?_
 refine GoC.seq ?_
 refine GoC.region ?_
 refine GoO.pure (ps_move rfl rfl) ?_
 refine GoO.pure (ps_geq rfl rfl rfl) ?_
 refine GoO.nil ?_
 refine GoK.code ?_
 refine GoC.condD rfl (fun h12 => ?_) (fun h12 => ?_)
 replace H := ite_t h12 H
 refine GoC.skip ?_
 refine GoK.code ?_
 refine GoC.seq ?_
 refine GoC.block ?_
 refine GoC.region ?_
 refine GoO.pure (ps_move rfl rfl) ?_
 refine GoO.pure (ps_move rfl rfl) ?_
 refine GoO.pure (ps_move rfl rfl) ?_
 refine GoO.pure (ps_move rfl rfl) ?_
 have hb := bind_l H; clear H
 obtain ⟨l13, e14, H⟩ := hb
 have c15 := ck_l H; replace H := ck_r H
 refine GoO.effC (ef_call rfl (Take.cons _ _ _ _ _ Rem.p0 (Take.nil _)) (Take.nil _) (slices_siftDownOrdered_int_spec l4 x5 (p2 - p1) p1 βp0 e14) (LendL.cons (Lend.refl _ _) (LendL.cons (Lend.refl _ _) (LendL.cons (Lend.refl _ _) (LendL.cons (Lend.refl _ _) (LendL.nil))))) rfl (slices_siftDownOrdered_int_I (l13) βp0)) (fun rr HH hp => ?_)
 obtain ⟨rfl, rfl⟩ := hp
 refine GoO.nil ?_
 refine GoK.blk ?_
 refine GoK.code ?_
 refine GoC.region ?_
 refine GoO.pure (ps_move rfl rfl) ?_
 have c16 := ck_l H; replace H := ck_r H
 refine GoO.pure (ps_sub rfl rfl rfl c16) ?_
 refine GoO.pure (ps_assign rfl rfl) ?_
 refine GoO.nil ?_
 obtain rfl := Option.some.inj H
 exact GoK.againJ m11' (by omega) ⟨_, _, hF7, rfl, rfl⟩ (EnvD.cons rfl (DLe.len (by first | rfl | omega | (simp only [row_len, gridC_len, rowO_len, c15] <;> first | rfl | omega))) (EnvD.eq rfl (EnvD.eq rfl (EnvD.eq rfl (EnvD.eq rfl (EnvD.nil)))))) (TkD.cons _ _ _ _ _ Rem.p0 (HLe.refl _) (TkD.nil _))
 replace H := ite_f h12 H
 refine GoC.exit rfl ?_
 obtain rfl := Option.some.inj H
 obtain rfl := Option.some.inj hF7
 exact GoK.meet ⟨_, _, rfl, rfl, rfl⟩ (EnvD.cons rfl (DLe.len (by first | rfl | omega | (simp only [row_len, gridC_len, rowO_len] <;> first | rfl | omega))) (EnvD.eq rfl (EnvD.eq rfl (EnvD.eq rfl (EnvD.nil))))) (TkD.cons _ _ _ _ _ Rem.p0 (HLe.refl _) (TkD.nil _))
 rintro v h ⟨l9, x10, rfl, rfl, rfl⟩
 have H := HK6; clear HK6
 refine GoK.code ?_
 refine GoC.seq ?_
 refine GoC.region ?_
 refine GoO.pure (ps_move rfl rfl) ?_
 refine GoO.pure (ps_sub rfl rfl rfl c2) ?_
 refine GoO.pure (ps_assign rfl rfl) ?_
 refine GoO.nil ?_
 refine GoK.code ?_
 have hb := bind_l H; clear H
 obtain ⟨q22, hl34, HK20⟩ := hb
 refine GoC.blockJ [] [] (fun v h => ∃ (l23 : (List Int)) (x24 : Int), q22 = .go (l23, x24) ∧ v = [] ∧ h = [.one βp0 3 1 (row l23)]) ?_ ?_
 refine GoC.loopJ [(6, _), (7, _)] [] (fun mQ v h => ∃ (l18 : (List Int)) (x19 : Int), loopC (slices_heapSortOrdered_int_B2 p1) mQ (l18, x19) = some q22 ∧ v = [(0, .own βp0 1 0 l18.length), (10, .v (.int .i64 x19))] ∧ h = [.one βp0 3 1 (row l18)]) 1000000 ⟨_, _, hl34, rfl, rfl⟩ (EnvD.cons rfl (DLe.len (by first | rfl | omega | (simp only [row_len, gridC_len, rowO_len] <;> first | rfl | omega))) (EnvD.eq rfl (EnvD.eq rfl (EnvD.eq rfl (EnvD.nil))))) (TkD.cons _ _ _ _ _ Rem.p0 (HLe.refl _) (TkD.nil _)) ?_
 rintro m25 v h ⟨l18, x19, hF21, rfl, rfl⟩
 obtain ⟨m25', rfl⟩ | rfl : (∃ x, m25 = x + 1) ∨ m25 = 0 := by cases m25 <;> simp
 case inr => cases hF21
 have hb := bind_l hF21; clear hF21
 obtain ⟨qrm25, H, hF21⟩ := hb
 refine GoC.seq ?_
 refine GoC.seq ?_
 refine GoC.region ?_
 refine GoO.pure (ps_move rfl rfl) ?_
 refine GoO.pure (ps_geq rfl rfl rfl) ?_
 refine GoO.nil ?_
 refine GoK.code ?_
 refine GoC.condD rfl (fun h26 => ?_) (fun h26 => ?_)
 replace H := ite_t h26 H
 refine GoC.skip ?_
 refine GoK.code ?_
 refine GoC.seq ?_
 refine GoC.block ?_
 refine GoC.seq ?_
 refine GoC.drawP (.q 0 (.q 1 (.q 2 (.q 3 (.q 4 (.q 5 (.q 6 (.q 7 (.q 8 (.q 9 (.q 10 (.q 12 (.q 13 (.q 14 (.two 11 15 (.one 15 (.q 16 (.one 17 (.q 18 (.one 19 (.done)))))) (.one 11 (.q 16 (.one 17 (.q 18 (.one 19 (.done))))))))))))))))))))) [] follows (by kernel_rfl) (Take.nil _) ?_
 refine GoP.qN rfl (ps_move rfl rfl) ?_
 refine GoP.qN rfl (ps_move rfl rfl) ?_
 refine GoP.qN rfl (ps_move rfl rfl) ?_
 refine GoP.qN rfl (ps_move rfl rfl) ?_
 refine GoP.qN rfl (ps_move rfl rfl) ?_
 have c27 := ck_l H; replace H := ck_r H
 refine GoP.qN rfl (ps_add rfl rfl rfl c27) ?_
 refine GoP.qN rfl (ps_move rfl rfl) ?_
 refine GoP.qN rfl (ps_move rfl rfl) ?_
 refine GoP.qN rfl (ps_move rfl rfl) ?_
 refine GoP.qN rfl (ps_add rfl rfl rfl c27) ?_
 have c28 := ck_l H; replace H := ck_r H
 refine GoP.qN rfl (ps_indexAddr0 rfl rfl c28 rfl) ?_
 refine GoP.qN rfl (ps_move rfl rfl) ?_
 refine GoP.qN rfl (ps_move rfl rfl) ?_
 have c29 := ck_l H; replace H := ck_r H
 refine GoP.qN rfl (ps_indexAddr0 rfl rfl c29 rfl) ?_
 apply GoP.fork0
 exact rfl
 exact rfl
 exact trivial
 exact trivial
 exact Eff.pure (H1 := [.one βp0 3 1 (row l18)]) (ps_load rfl At.p0 At.p0 (idx_lt c28) rfl rfl)
 exact Eff.pure (H1 := [.one βp0 3 1 (row l18)]) (ps_load rfl At.p0 At.p0 (idx_lt c29) rfl rfl)
 exact (Take.nil _)
 exact (Take.nil _)
 intro hQ
 rintro _ rfl
 refine GoP.oneN rfl (ps_load rfl At.p0 At.p0 (idx_lt c29) rfl rfl) (Take.nil _) ?_
 refine GoP.qN rfl (ps_indexAddr0 rfl rfl c29 rfl) ?_
 refine GoP.one1 rfl trivial (ef_store rfl rfl rfl At.p0 (upd_row1 (v := (l18.getD ((p1 + x19).toNat) (0 : Int))) rfl) (idx_lt c29) rfl) (Take.cons _ _ _ _ _ Rem.p0 (Take.nil _)) ?_
 refine GoP.qN rfl (ps_indexAddr0 rfl rfl c28 rfl) ?_
 refine GoP.one1 rfl trivial (ef_store rfl rfl rfl At.p0 (upd_row1 (v := (l18.getD p1.toNat (0 : Int))) rfl) (lt_len (idx_lt c28) (by first | rfl | omega | (simp only [row_len, gridC_len, rowO_len, List.length_set] <;> first | rfl | omega))) rfl) (Take.cons _ _ _ _ _ Rem.p0 (Take.nil _)) ?_
 exact GoP.done (hQ)
 intro hQ
 rintro _ rfl
 refine GoP.oneN rfl (ps_load rfl At.p0 At.p0 (idx_lt c28) rfl rfl) (Take.nil _) ?_
 refine GoP.qN rfl (ps_indexAddr0 rfl rfl c29 rfl) ?_
 refine GoP.one1 rfl trivial (ef_store rfl rfl rfl At.p0 (upd_row1 (v := (l18.getD ((p1 + x19).toNat) (0 : Int))) rfl) (idx_lt c29) rfl) (Take.cons _ _ _ _ _ Rem.p0 (Take.nil _)) ?_
 refine GoP.qN rfl (ps_indexAddr0 rfl rfl c28 rfl) ?_
 refine GoP.one1 rfl trivial (ef_store rfl rfl rfl At.p0 (upd_row1 (v := (l18.getD p1.toNat (0 : Int))) rfl) (lt_len (idx_lt c28) (by first | rfl | omega | (simp only [row_len, gridC_len, rowO_len, List.length_set] <;> first | rfl | omega))) rfl) (Take.cons _ _ _ _ _ Rem.p0 (Take.nil _)) ?_
 refine GoP.done (GoK.le ?_ (hQ))
 refine Le.ofDW ?_ (TkD.cons _ _ _ _ _ Rem.p0 (HLe.refl _) (TkD.nil _))
 repeat (first | exact EnvLeW.nil | refine EnvLeW.cons rfl ?_ | refine EnvLeW.skip rfl ?_)
 refine GoK.code ?_
 refine GoC.region ?_
 refine GoO.pure (ps_move rfl rfl) ?_
 refine GoO.pure (ps_move rfl rfl) ?_
 refine GoO.pure (ps_move rfl rfl) ?_
 refine GoO.pure (ps_move rfl rfl) ?_
 have hb := bind_l H; clear H
 obtain ⟨l30, e31, H⟩ := hb
 have c32 := ck_l H; replace H := ck_r H
 refine GoO.effC (ef_call rfl (Take.cons _ _ _ _ _ Rem.p0 (Take.nil _)) (Take.nil _) (slices_siftDownOrdered_int_spec ((l18.set p1.toNat (l18.getD ((p1 + x19).toNat) (0 : Int))).set ((p1 + x19).toNat) (l18.getD p1.toNat (0 : Int))) 0 x19 p1 βp0 e31) (LendL.cons (Lend.ofLe (DLe.len (by first | rfl | omega | (simp only [subl_length, cpl_length, List.length_set, List.length_append, List.length_cons, List.length_nil, List.length_replicate, row_len] <;> first | rfl | omega)))) (LendL.cons (Lend.refl _ _) (LendL.cons (Lend.refl _ _) (LendL.cons (Lend.refl _ _) (LendL.nil))))) rfl (slices_siftDownOrdered_int_I (l30) βp0)) (fun rr HH hp => ?_)
 obtain ⟨rfl, rfl⟩ := hp
 refine GoO.nil ?_
 refine GoK.blk ?_
 refine GoK.code ?_
 refine GoC.region ?_
 refine GoO.pure (ps_move rfl rfl) ?_
 have c33 := ck_l H; replace H := ck_r H
 refine GoO.pure (ps_sub rfl rfl rfl c33) ?_
 refine GoO.pure (ps_assign rfl rfl) ?_
 refine GoO.nil ?_
 obtain rfl := Option.some.inj H
 exact GoK.againJ m25' (by omega) ⟨_, _, hF21, rfl, rfl⟩ (EnvD.cons rfl (DLe.len (by first | rfl | omega | (simp only [row_len, gridC_len, rowO_len, c32] <;> first | rfl | omega))) (EnvD.eq rfl (EnvD.eq rfl (EnvD.eq rfl (EnvD.nil))))) (TkD.cons _ _ _ _ _ Rem.p0 (HLe.refl _) (TkD.nil _))
 replace H := ite_f h26 H
 refine GoC.exit rfl ?_
 obtain rfl := Option.some.inj H
 obtain rfl := Option.some.inj hF21
 exact GoK.meet ⟨_, _, rfl, rfl, rfl⟩ (EnvD.nil) (TkD.cons _ _ _ _ _ Rem.p0 (HLe.refl _) (TkD.nil _))
 rintro v h ⟨l23, x24, rfl, rfl, rfl⟩
 have H := HK20; clear HK20
 obtain rfl := Option.some.inj H
 exact GoK.retL (ds := []) Try.results80 (ResL.nil) (Take.cons _ _ _ _ _ Rem.p0 (Take.nil _)) ⟨rfl, rfl⟩

def slices_nextPowerOfTwo_F (p0 : Int) : Option (Int) :=
 (bits_Len_F (IntKind.u64.wrap p0)).bind fun r1 =>
 ck (0 ≤ r1) <|
 some (IntKind.u64.wrap (1 * 2 ^ min r1.toNat 64))
def slices_nextPowerOfTwo_P (out : Int) (d : D) (H : List HL) : Prop := d = .v (.int .u64 out) ∧ H = []
theorem slices_nextPowerOfTwo_I (out : Int) : IndepP (slices_nextPowerOfTwo_P out) := IndepP.of (by rintro _ _ ⟨rfl, rfl⟩; exact ⟨inferInstance, inferInstance⟩)
set_option maxRecDepth 100000 in
set_option maxHeartbeats 4000000 in
theorem slices_nextPowerOfTwo_spec (p0 : Int) {out : Int} (H : slices_nextPowerOfTwo_F p0 = some out) : Does Try.prog 102 [.v (.int .i64 p0)] [] (slices_nextPowerOfTwo_P out) := by
 unfold slices_nextPowerOfTwo_F at H
 refine Does.intro Try.func102 rfl Try.ntmps102 rfl fun w0 I0 => ?_
 refine GoC.seq ?_
 refine GoC.region ?_
 refine GoO.pure (ps_assign rfl rfl) ?_
 refine GoO.nil ?_
 refine GoK.code ?_
 refine GoC.seq ?_
 refine GoC.region ?_
 refine GoO.pure (ps_move rfl rfl) ?_
 refine GoO.pure (ps_convK rfl rfl) ?_
 have hb := bind_l H; clear H
 obtain ⟨r1, e2, H⟩ := hb
 refine GoO.effC (ef_call rfl (Take.nil _) (Take.nil _) (bits_Len_spec (IntKind.u64.wrap p0) e2) (LendL.cons (Lend.refl _ _) (LendL.nil)) rfl (bits_Len_I (r1))) (fun rr HH hp => ?_)
 obtain ⟨rfl, rfl⟩ := hp
 have c3 := ck_l H; replace H := ck_r H
 refine GoO.pure (ps_shl rfl rfl rfl c3) ?_
 refine GoO.pure (ps_assign rfl rfl) ?_
 refine GoO.nil ?_
 refine GoK.code ?_
 obtain rfl := Option.some.inj H
 exact GoC.retL (ds := [.v (.int .u64 (IntKind.u64.wrap (1 * 2 ^ min r1.toNat 64)))]) Try.results102 (ResL.cons (ResD.tmp rfl) (ResL.nil)) (Take.nil _) ⟨rfl, rfl⟩

def slices_Next_F (p0 : Int) : Option (Int × Int) :=
 some ((bitsOf .xor .u64 (bitsOf .xor .u64 (bitsOf .xor .u64 p0 (IntKind.u64.wrap (p0 * 2 ^ min 13 64))) (Int.fdiv (bitsOf .xor .u64 p0 (IntKind.u64.wrap (p0 * 2 ^ min 13 64))) (2 ^ min 7 64))) (IntKind.u64.wrap ((bitsOf .xor .u64 (bitsOf .xor .u64 p0 (IntKind.u64.wrap (p0 * 2 ^ min 13 64))) (Int.fdiv (bitsOf .xor .u64 p0 (IntKind.u64.wrap (p0 * 2 ^ min 13 64))) (2 ^ min 7 64))) * 2 ^ min 17 64))), (bitsOf .xor .u64 (bitsOf .xor .u64 (bitsOf .xor .u64 p0 (IntKind.u64.wrap (p0 * 2 ^ min 13 64))) (Int.fdiv (bitsOf .xor .u64 p0 (IntKind.u64.wrap (p0 * 2 ^ min 13 64))) (2 ^ min 7 64))) (IntKind.u64.wrap ((bitsOf .xor .u64 (bitsOf .xor .u64 p0 (IntKind.u64.wrap (p0 * 2 ^ min 13 64))) (Int.fdiv (bitsOf .xor .u64 p0 (IntKind.u64.wrap (p0 * 2 ^ min 13 64))) (2 ^ min 7 64))) * 2 ^ min 17 64))))
def slices_Next_P (out : Int × Int) (βp0 : BK) (d : D) (H : List HL) : Prop := d = .v (.int .u64 out.1) ∧ H = [.one βp0 152 1 (st1 (nth [.v (.int .u64 out.2)]))]
theorem slices_Next_I (out : Int × Int) (βp0 : BK) : IndepP (slices_Next_P out βp0) := IndepP.of (by rintro _ _ ⟨rfl, rfl⟩; exact ⟨inferInstance, inferInstance⟩)
set_option maxRecDepth 100000 in
set_option maxHeartbeats 4000000 in
theorem slices_Next_spec (p0 : Int) (βp0 : BK) {out : Int × Int} (H : slices_Next_F p0 = some out) : Does Try.prog 103 [.ptr βp0 1 0 0] [.one βp0 152 1 (st1 (nth [.v (.int .u64 p0)]))] (slices_Next_P out βp0) := by
 unfold slices_Next_F at H
 refine Does.intro Try.func103 rfl Try.ntmps103 rfl fun w0 I0 => ?_
 refine GoC.seq ?_
 refine GoC.region ?_
 refine GoO.pure (ps_assign rfl rfl) ?_
 refine GoO.nil ?_
 refine GoK.code ?_
 refine GoC.seq ?_
 refine GoC.drawP (.q 0 (.q 1 (.q 3 (.q 4 (.two 2 5 (.one 5 (.q 6 (.q 7 (.q 8 (.one 9 (.done)))))) (.q 6 (.one 2 (.q 7 (.q 8 (.one 9 (.done))))))))))) [] follows (by kernel_rfl) (Take.nil _) ?_
 refine GoP.qN rfl (ps_move rfl rfl) ?_
 refine GoP.qN rfl (ps_nilCheck rfl rfl) ?_
 refine GoP.qN rfl (ps_move rfl rfl) ?_
 refine GoP.qN rfl (ps_nilCheck rfl rfl) ?_
 apply GoP.fork0
 exact rfl
 exact rfl
 exact trivial
 exact trivial
 exact Eff.pure (H1 := [.one βp0 152 1 (st1 (nth [.v (.int .u64 p0)]))]) (ps_load rfl At.p0 At.p0 Nat.zero_lt_one rfl rfl)
 exact Eff.pure (H1 := [.one βp0 152 1 (st1 (nth [.v (.int .u64 p0)]))]) (ps_load rfl At.p0 At.p0 Nat.zero_lt_one rfl rfl)
 exact (Take.nil _)
 exact (Take.nil _)
 intro hQ
 rintro _ rfl
 refine GoP.oneN rfl (ps_load rfl At.p0 At.p0 Nat.zero_lt_one rfl rfl) (Take.nil _) ?_
 refine GoP.qN rfl (ps_shl rfl rfl rfl (by decide)) ?_
 refine GoP.qN rfl (ps_xor rfl rfl rfl) ?_
 refine GoP.qN rfl (ps_nilCheck rfl rfl) ?_
 refine GoP.one1 rfl trivial (ef_store rfl rfl rfl At.p0 upd_st1 Nat.zero_lt_one rfl) (Take.cons _ _ _ _ _ Rem.p0 (Take.nil _)) ?_
 refine GoP.leD (Le.reH At.p0 (HLe.st (g' := nth [.v (.int .u64 (bitsOf .xor .u64 p0 (IntKind.u64.wrap (p0 * 2 ^ min 13 64))))]) ⟨trivial, DLe.refl _⟩)) ?_
 exact GoP.done (hQ)
 intro hQ
 rintro _ rfl
 refine GoP.qN rfl (ps_shl rfl rfl rfl (by decide)) ?_
 refine GoP.oneN rfl (ps_load rfl At.p0 At.p0 Nat.zero_lt_one rfl rfl) (Take.nil _) ?_
 refine GoP.qN rfl (ps_xor rfl rfl rfl) ?_
 refine GoP.qN rfl (ps_nilCheck rfl rfl) ?_
 refine GoP.one1 rfl trivial (ef_store rfl rfl rfl At.p0 upd_st1 Nat.zero_lt_one rfl) (Take.cons _ _ _ _ _ Rem.p0 (Take.nil _)) ?_
 refine GoP.leD (Le.reH At.p0 (HLe.st (g' := nth [.v (.int .u64 (bitsOf .xor .u64 p0 (IntKind.u64.wrap (p0 * 2 ^ min 13 64))))]) ⟨trivial, DLe.refl _⟩)) ?_
 refine GoP.done (GoK.le ?_ (hQ))
 refine Le.ofDW ?_ (TkD.cons _ _ _ _ _ Rem.p0 (HLe.refl _) (TkD.nil _))
 repeat (first | exact EnvLeW.nil | refine EnvLeW.cons rfl ?_ | refine EnvLeW.skip rfl ?_)
 refine GoK.code ?_
 refine GoC.seq ?_
 refine GoC.drawP (.q 0 (.q 1 (.q 3 (.q 4 (.two 2 5 (.one 5 (.q 6 (.q 7 (.q 8 (.one 9 (.done)))))) (.q 6 (.one 2 (.q 7 (.q 8 (.one 9 (.done))))))))))) [] follows (by kernel_rfl) (Take.nil _) ?_
 refine GoP.qN rfl (ps_move rfl rfl) ?_
 refine GoP.qN rfl (ps_nilCheck rfl rfl) ?_
 refine GoP.qN rfl (ps_move rfl rfl) ?_
 refine GoP.qN rfl (ps_nilCheck rfl rfl) ?_
 apply GoP.fork0
 exact rfl
 exact rfl
 exact trivial
 exact trivial
 exact Eff.pure (H1 := [.one βp0 152 1 (st1 (nth [.v (.int .u64 (bitsOf .xor .u64 p0 (IntKind.u64.wrap (p0 * 2 ^ min 13 64))))]))]) (ps_load rfl At.p0 At.p0 Nat.zero_lt_one rfl rfl)
 exact Eff.pure (H1 := [.one βp0 152 1 (st1 (nth [.v (.int .u64 (bitsOf .xor .u64 p0 (IntKind.u64.wrap (p0 * 2 ^ min 13 64))))]))]) (ps_load rfl At.p0 At.p0 Nat.zero_lt_one rfl rfl)
 exact (Take.nil _)
 exact (Take.nil _)
 intro hQ
 rintro _ rfl
 refine GoP.oneN rfl (ps_load rfl At.p0 At.p0 Nat.zero_lt_one rfl rfl) (Take.nil _) ?_
 refine GoP.qN rfl (ps_shr rfl rfl rfl (by decide)) ?_
 refine GoP.qN rfl (ps_xor rfl rfl rfl) ?_
 refine GoP.qN rfl (ps_nilCheck rfl rfl) ?_
 refine GoP.one1 rfl trivial (ef_store rfl rfl rfl At.p0 upd_st1 Nat.zero_lt_one rfl) (Take.cons _ _ _ _ _ Rem.p0 (Take.nil _)) ?_
 refine GoP.leD (Le.reH At.p0 (HLe.st (g' := nth [.v (.int .u64 (bitsOf .xor .u64 (bitsOf .xor .u64 p0 (IntKind.u64.wrap (p0 * 2 ^ min 13 64))) (Int.fdiv (bitsOf .xor .u64 p0 (IntKind.u64.wrap (p0 * 2 ^ min 13 64))) (2 ^ min 7 64))))]) ⟨trivial, DLe.refl _⟩)) ?_
 exact GoP.done (hQ)
 intro hQ
 rintro _ rfl
 refine GoP.qN rfl (ps_shr rfl rfl rfl (by decide)) ?_
 refine GoP.oneN rfl (ps_load rfl At.p0 At.p0 Nat.zero_lt_one rfl rfl) (Take.nil _) ?_
 refine GoP.qN rfl (ps_xor rfl rfl rfl) ?_
 refine GoP.qN rfl (ps_nilCheck rfl rfl) ?_
 refine GoP.one1 rfl trivial (ef_store rfl rfl rfl At.p0 upd_st1 Nat.zero_lt_one rfl) (Take.cons _ _ _ _ _ Rem.p0 (Take.nil _)) ?_
 refine GoP.leD (Le.reH At.p0 (HLe.st (g' := nth [.v (.int .u64 (bitsOf .xor .u64 (bitsOf .xor .u64 p0 (IntKind.u64.wrap (p0 * 2 ^ min 13 64))) (Int.fdiv (bitsOf .xor .u64 p0 (IntKind.u64.wrap (p0 * 2 ^ min 13 64))) (2 ^ min 7 64))))]) ⟨trivial, DLe.refl _⟩)) ?_
 refine GoP.done (GoK.le ?_ (hQ))
 refine Le.ofDW ?_ (TkD.cons _ _ _ _ _ Rem.p0 (HLe.refl _) (TkD.nil _))
 repeat (first | exact EnvLeW.nil | refine EnvLeW.cons rfl ?_ | refine EnvLeW.skip rfl ?_)
 refine GoK.code ?_
 refine GoC.seq ?_
 refine GoC.drawP (.q 0 (.q 1 (.q 3 (.q 4 (.two 2 5 (.one 5 (.q 6 (.q 7 (.q 8 (.one 9 (.done)))))) (.q 6 (.one 2 (.q 7 (.q 8 (.one 9 (.done))))))))))) [] follows (by kernel_rfl) (Take.nil _) ?_
 refine GoP.qN rfl (ps_move rfl rfl) ?_
 refine GoP.qN rfl (ps_nilCheck rfl rfl) ?_
 refine GoP.qN rfl (ps_move rfl rfl) ?_
 refine GoP.qN rfl (ps_nilCheck rfl rfl) ?_
 apply GoP.fork0
 exact rfl
 exact rfl
 exact trivial
 exact trivial
 exact Eff.pure (H1 := [.one βp0 152 1 (st1 (nth [.v (.int .u64 (bitsOf .xor .u64 (bitsOf .xor .u64 p0 (IntKind.u64.wrap (p0 * 2 ^ min 13 64))) (Int.fdiv (bitsOf .xor .u64 p0 (IntKind.u64.wrap (p0 * 2 ^ min 13 64))) (2 ^ min 7 64))))]))]) (ps_load rfl At.p0 At.p0 Nat.zero_lt_one rfl rfl)
 exact Eff.pure (H1 := [.one βp0 152 1 (st1 (nth [.v (.int .u64 (bitsOf .xor .u64 (bitsOf .xor .u64 p0 (IntKind.u64.wrap (p0 * 2 ^ min 13 64))) (Int.fdiv (bitsOf .xor .u64 p0 (IntKind.u64.wrap (p0 * 2 ^ min 13 64))) (2 ^ min 7 64))))]))]) (ps_load rfl At.p0 At.p0 Nat.zero_lt_one rfl rfl)
 exact (Take.nil _)
 exact (Take.nil _)
 intro hQ
 rintro _ rfl
 refine GoP.oneN rfl (ps_load rfl At.p0 At.p0 Nat.zero_lt_one rfl rfl) (Take.nil _) ?_
 refine GoP.qN rfl (ps_shl rfl rfl rfl (by decide)) ?_
 refine GoP.qN rfl (ps_xor rfl rfl rfl) ?_
 refine GoP.qN rfl (ps_nilCheck rfl rfl) ?_
 refine GoP.one1 rfl trivial (ef_store rfl rfl rfl At.p0 upd_st1 Nat.zero_lt_one rfl) (Take.cons _ _ _ _ _ Rem.p0 (Take.nil _)) ?_
 refine GoP.leD (Le.reH At.p0 (HLe.st (g' := nth [.v (.int .u64 (bitsOf .xor .u64 (bitsOf .xor .u64 (bitsOf .xor .u64 p0 (IntKind.u64.wrap (p0 * 2 ^ min 13 64))) (Int.fdiv (bitsOf .xor .u64 p0 (IntKind.u64.wrap (p0 * 2 ^ min 13 64))) (2 ^ min 7 64))) (IntKind.u64.wrap ((bitsOf .xor .u64 (bitsOf .xor .u64 p0 (IntKind.u64.wrap (p0 * 2 ^ min 13 64))) (Int.fdiv (bitsOf .xor .u64 p0 (IntKind.u64.wrap (p0 * 2 ^ min 13 64))) (2 ^ min 7 64))) * 2 ^ min 17 64))))]) ⟨trivial, DLe.refl _⟩)) ?_
 exact GoP.done (hQ)
 intro hQ
 rintro _ rfl
 refine GoP.qN rfl (ps_shl rfl rfl rfl (by decide)) ?_
 refine GoP.oneN rfl (ps_load rfl At.p0 At.p0 Nat.zero_lt_one rfl rfl) (Take.nil _) ?_
 refine GoP.qN rfl (ps_xor rfl rfl rfl) ?_
 refine GoP.qN rfl (ps_nilCheck rfl rfl) ?_
 refine GoP.one1 rfl trivial (ef_store rfl rfl rfl At.p0 upd_st1 Nat.zero_lt_one rfl) (Take.cons _ _ _ _ _ Rem.p0 (Take.nil _)) ?_
 refine GoP.leD (Le.reH At.p0 (HLe.st (g' := nth [.v (.int .u64 (bitsOf .xor .u64 (bitsOf .xor .u64 (bitsOf .xor .u64 p0 (IntKind.u64.wrap (p0 * 2 ^ min 13 64))) (Int.fdiv (bitsOf .xor .u64 p0 (IntKind.u64.wrap (p0 * 2 ^ min 13 64))) (2 ^ min 7 64))) (IntKind.u64.wrap ((bitsOf .xor .u64 (bitsOf .xor .u64 p0 (IntKind.u64.wrap (p0 * 2 ^ min 13 64))) (Int.fdiv (bitsOf .xor .u64 p0 (IntKind.u64.wrap (p0 * 2 ^ min 13 64))) (2 ^ min 7 64))) * 2 ^ min 17 64))))]) ⟨trivial, DLe.refl _⟩)) ?_
 refine GoP.done (GoK.le ?_ (hQ))
 refine Le.ofDW ?_ (TkD.cons _ _ _ _ _ Rem.p0 (HLe.refl _) (TkD.nil _))
 repeat (first | exact EnvLeW.nil | refine EnvLeW.cons rfl ?_ | refine EnvLeW.skip rfl ?_)
 refine GoK.code ?_
 refine GoC.seq ?_
 refine GoC.region ?_
 refine GoO.pure (ps_move rfl rfl) ?_
 refine GoO.pure (ps_nilCheck rfl rfl) ?_
 refine GoO.pure (ps_load rfl At.p0 At.p0 Nat.zero_lt_one rfl rfl) ?_
 refine GoO.pure (ps_assign rfl rfl) ?_
 refine GoO.nil ?_
 refine GoK.code ?_
 obtain rfl := Option.some.inj H
 exact GoC.retL (ds := [.v (.int .u64 (bitsOf .xor .u64 (bitsOf .xor .u64 (bitsOf .xor .u64 p0 (IntKind.u64.wrap (p0 * 2 ^ min 13 64))) (Int.fdiv (bitsOf .xor .u64 p0 (IntKind.u64.wrap (p0 * 2 ^ min 13 64))) (2 ^ min 7 64))) (IntKind.u64.wrap ((bitsOf .xor .u64 (bitsOf .xor .u64 p0 (IntKind.u64.wrap (p0 * 2 ^ min 13 64))) (Int.fdiv (bitsOf .xor .u64 p0 (IntKind.u64.wrap (p0 * 2 ^ min 13 64))) (2 ^ min 7 64))) * 2 ^ min 17 64))))]) Try.results103 (ResL.cons (ResD.tmp rfl) (ResL.nil)) (Take.cons _ _ _ _ _ Rem.p0 (Take.nil _)) ⟨rfl, rfl⟩

def slices_reverseRangeOrdered_int_B1 : ((List Int) × Int × Int) → Option (Ct ((List Int) × Int × Int) ((List Int))) := fun (l2, x3, x4) =>
 if x3 < x4 then
  ck (0 ≤ x4 ∧ x4 < ((l2.length : Nat) : Int)) <|
  ck (0 ≤ x3 ∧ x3 < ((l2.length : Nat) : Int)) <|
  ck (InI (x3 + 1)) <|
  ck (InI (x4 - 1)) <|
  some (.go (((l2.set x3.toNat (l2.getD x4.toNat (0 : Int))).set x4.toNat (l2.getD x3.toNat (0 : Int))), (x3 + 1), (x4 - 1)))
 else
  some (.brk (l2, x3, x4))
def slices_reverseRangeOrdered_int_F (p0 : (List Int)) (p1 : Int) (p2 : Int) : Option ((List Int)) :=
 ck (InI (p2 - 1)) <|
 (loopC (slices_reverseRangeOrdered_int_B1) 1000000 (p0, p1, (p2 - 1))).bind fun q => match q with
 | .go (l8, x9, x10) =>
  some l8
 | .ret x => some x
def slices_reverseRangeOrdered_int_P (out : (List Int)) (βp0 : BK) (d : D) (H : List HL) : Prop := d = .tp 0 (nth []) ∧ H = [.one βp0 3 1 (row out)]
theorem slices_reverseRangeOrdered_int_I (out : (List Int)) (βp0 : BK) : IndepP (slices_reverseRangeOrdered_int_P out βp0) := IndepP.of (by rintro _ _ ⟨rfl, rfl⟩; exact ⟨inferInstance, inferInstance⟩)
set_option maxRecDepth 100000 in
set_option maxHeartbeats 4000000 in
theorem slices_reverseRangeOrdered_int_spec (p0 : (List Int)) (p1 : Int) (p2 : Int) (βp0 : BK) {out : (List Int)} (H : slices_reverseRangeOrdered_int_F p0 p1 p2 = some out) : Does Try.prog 83 [.own βp0 1 0 p0.length, .v (.int .i64 p1), .v (.int .i64 p2)] [.one βp0 3 1 (row p0)] (slices_reverseRangeOrdered_int_P out βp0) := by
 unfold slices_reverseRangeOrdered_int_F at H
 refine Does.intro Try.func83 rfl Try.ntmps83 rfl fun w0 I0 => ?_
 refine GoC.seq ?_
 refine GoC.region ?_
 refine GoO.pure (ps_move rfl rfl) ?_
 refine GoO.pure (ps_assign rfl rfl) ?_
 refine GoO.nil ?_
 refine GoK.code ?_
 refine GoC.seq ?_
 refine GoC.region ?_
 refine GoO.pure (ps_move rfl rfl) ?_
 have c1 := ck_l H; replace H := ck_r H
 refine GoO.pure (ps_sub rfl rfl rfl c1) ?_
 refine GoO.pure (ps_assign rfl rfl) ?_
 refine GoO.nil ?_
 refine GoK.code ?_
 have hb := bind_l H; clear H
 obtain ⟨q7, hl17, HK5⟩ := hb
 refine GoC.blockJ [] [] (fun v h => ∃ (l8 : (List Int)) (x9 : Int) (x10 : Int), q7 = .go (l8, x9, x10) ∧ v = [] ∧ h = [.one βp0 3 1 (row l8)]) ?_ ?_
 refine GoC.loopJ [] [] (fun mQ v h => ∃ (l2 : (List Int)) (x3 : Int) (x4 : Int), loopC (slices_reverseRangeOrdered_int_B1) mQ (l2, x3, x4) = some q7 ∧ v = [(0, .own βp0 1 0 l2.length), (6, .v (.int .i64 x3)), (7, .v (.int .i64 x4))] ∧ h = [.one βp0 3 1 (row l2)]) 1000000 ⟨_, _, _, hl17, rfl, rfl⟩ (EnvD.cons rfl (DLe.len (by first | rfl | omega | (simp only [row_len, gridC_len, rowO_len] <;> first | rfl | omega))) (EnvD.eq rfl (EnvD.eq rfl (EnvD.nil)))) (TkD.cons _ _ _ _ _ Rem.p0 (HLe.refl _) (TkD.nil _)) ?_
 rintro m11 v h ⟨l2, x3, x4, hF6, rfl, rfl⟩
 obtain ⟨m11', rfl⟩ | rfl : (∃ x, m11 = x + 1) ∨ m11 = 0 := by cases m11 <;> simp
 case inr => cases hF6
 have hb := bind_l hF6; clear hF6
 obtain ⟨qrm11, H, hF6⟩ := hb
 refine GoC.seq ?_
 refine GoC.seq ?_
 refine GoC.region ?_
 refine GoO.pure (ps_move rfl rfl) ?_
 refine GoO.pure (ps_move rfl rfl) ?_
 refine GoO.pure (ps_lss rfl rfl rfl) ?_
 refine GoO.nil ?_
 refine GoK.code ?_
 refine GoC.condD rfl (fun h12 => ?_) (fun h12 => ?_)
 replace H := ite_t h12 H
 refine GoC.skip ?_
 refine GoK.code ?_
 refine GoC.block ?_
 refine GoC.seq ?_
 refine GoC.drawP (.q 0 (.q 1 (.q 2 (.q 3 (.q 4 (.q 5 (.q 6 (.q 8 (.q 9 (.q 10 (.two 7 11 (.one 11 (.q 12 (.one 13 (.q 14 (.one 15 (.done)))))) (.one 7 (.q 12 (.one 13 (.q 14 (.one 15 (.done))))))))))))))))) [] follows (by kernel_rfl) (Take.nil _) ?_
 refine GoP.qN rfl (ps_move rfl rfl) ?_
 refine GoP.qN rfl (ps_move rfl rfl) ?_
 refine GoP.qN rfl (ps_move rfl rfl) ?_
 refine GoP.qN rfl (ps_move rfl rfl) ?_
 refine GoP.qN rfl (ps_move rfl rfl) ?_
 refine GoP.qN rfl (ps_move rfl rfl) ?_
 have c13 := ck_l H; replace H := ck_r H
 refine GoP.qN rfl (ps_indexAddr0 rfl rfl c13 rfl) ?_
 refine GoP.qN rfl (ps_move rfl rfl) ?_
 refine GoP.qN rfl (ps_move rfl rfl) ?_
 have c14 := ck_l H; replace H := ck_r H
 refine GoP.qN rfl (ps_indexAddr0 rfl rfl c14 rfl) ?_
 apply GoP.fork0
 exact rfl
 exact rfl
 exact trivial
 exact trivial
 exact Eff.pure (H1 := [.one βp0 3 1 (row l2)]) (ps_load rfl At.p0 At.p0 (idx_lt c13) rfl rfl)
 exact Eff.pure (H1 := [.one βp0 3 1 (row l2)]) (ps_load rfl At.p0 At.p0 (idx_lt c14) rfl rfl)
 exact (Take.nil _)
 exact (Take.nil _)
 intro hQ
 rintro _ rfl
 refine GoP.oneN rfl (ps_load rfl At.p0 At.p0 (idx_lt c14) rfl rfl) (Take.nil _) ?_
 refine GoP.qN rfl (ps_indexAddr0 rfl rfl c14 rfl) ?_
 refine GoP.one1 rfl trivial (ef_store rfl rfl rfl At.p0 (upd_row1 (v := (l2.getD x4.toNat (0 : Int))) rfl) (idx_lt c14) rfl) (Take.cons _ _ _ _ _ Rem.p0 (Take.nil _)) ?_
 refine GoP.qN rfl (ps_indexAddr0 rfl rfl c13 rfl) ?_
 refine GoP.one1 rfl trivial (ef_store rfl rfl rfl At.p0 (upd_row1 (v := (l2.getD x3.toNat (0 : Int))) rfl) (lt_len (idx_lt c13) (by first | rfl | omega | (simp only [row_len, gridC_len, rowO_len, List.length_set] <;> first | rfl | omega))) rfl) (Take.cons _ _ _ _ _ Rem.p0 (Take.nil _)) ?_
 exact GoP.done (hQ)
 intro hQ
 rintro _ rfl
 refine GoP.oneN rfl (ps_load rfl At.p0 At.p0 (idx_lt c13) rfl rfl) (Take.nil _) ?_
 refine GoP.qN rfl (ps_indexAddr0 rfl rfl c14 rfl) ?_
 refine GoP.one1 rfl trivial (ef_store rfl rfl rfl At.p0 (upd_row1 (v := (l2.getD x4.toNat (0 : Int))) rfl) (idx_lt c14) rfl) (Take.cons _ _ _ _ _ Rem.p0 (Take.nil _)) ?_
 refine GoP.qN rfl (ps_indexAddr0 rfl rfl c13 rfl) ?_
 refine GoP.one1 rfl trivial (ef_store rfl rfl rfl At.p0 (upd_row1 (v := (l2.getD x3.toNat (0 : Int))) rfl) (lt_len (idx_lt c13) (by first | rfl | omega | (simp only [row_len, gridC_len, rowO_len, List.length_set] <;> first | rfl | omega))) rfl) (Take.cons _ _ _ _ _ Rem.p0 (Take.nil _)) ?_
 refine GoP.done (GoK.le ?_ (hQ))
 refine Le.ofDW ?_ (TkD.cons _ _ _ _ _ Rem.p0 (HLe.refl _) (TkD.nil _))
 repeat (first | exact EnvLeW.nil | refine EnvLeW.cons rfl ?_ | refine EnvLeW.skip rfl ?_)
 refine GoK.code ?_
 refine GoC.seq ?_
 refine GoC.region ?_
 refine GoO.pure (ps_move rfl rfl) ?_
 have c15 := ck_l H; replace H := ck_r H
 refine GoO.pure (ps_add rfl rfl rfl c15) ?_
 refine GoO.pure (ps_assign rfl rfl) ?_
 refine GoO.nil ?_
 refine GoK.code ?_
 refine GoC.region ?_
 refine GoO.pure (ps_move rfl rfl) ?_
 have c16 := ck_l H; replace H := ck_r H
 refine GoO.pure (ps_sub rfl rfl rfl c16) ?_
 refine GoO.pure (ps_assign rfl rfl) ?_
 refine GoO.nil ?_
 refine GoK.blk ?_
 obtain rfl := Option.some.inj H
 exact GoK.againJ m11' (by omega) ⟨_, _, _, hF6, rfl, rfl⟩ (EnvD.cons rfl (DLe.len (by first | rfl | omega | (simp only [row_len, gridC_len, rowO_len, List.length_set] <;> first | rfl | omega))) (EnvD.eq rfl (EnvD.eq rfl (EnvD.nil)))) (TkD.cons _ _ _ _ _ Rem.p0 (HLe.refl _) (TkD.nil _))
 replace H := ite_f h12 H
 refine GoC.exit rfl ?_
 obtain rfl := Option.some.inj H
 obtain rfl := Option.some.inj hF6
 exact GoK.meet ⟨_, _, _, rfl, rfl, rfl⟩ (EnvD.nil) (TkD.cons _ _ _ _ _ Rem.p0 (HLe.refl _) (TkD.nil _))
 rintro v h ⟨l8, x9, x10, rfl, rfl, rfl⟩
 have H := HK5; clear HK5
 obtain rfl := Option.some.inj H
 exact GoK.retL (ds := []) Try.results83 (ResL.nil) (Take.cons _ _ _ _ _ Rem.p0 (Take.nil _)) ⟨rfl, rfl⟩

def slices_partialInsertionSortOrdered_int_B2 (p2 : Int) (l2 : (List Int)) : Int → Option (Ct (Int) (Ct ((List Int) × Int × Nat) (Bool × (List Int)))) := fun x13 =>
 if x13 < p2 then
  ck (0 ≤ x13 ∧ x13 < ((l2.length : Nat) : Int)) <|
  ck (InI (x13 - 1)) <|
  ck (0 ≤ (x13 - 1) ∧ (x13 - 1) < ((l2.length : Nat) : Int)) <|
  (cmp_Less_int_F (l2.getD x13.toNat (0 : Int)) (l2.getD ((x13 - 1).toNat) (0 : Int))).bind fun r23 =>
  if (!r23) = true then
   ck (InI (x13 + 1)) <|
   some (.go (x13 + 1))
  else
   some (.brk x13)
 else
  some (.brk x13)
def slices_partialInsertionSortOrdered_int_B3 : ((List Int) × Int) → Option (Ct ((List Int) × Int) ((List Int))) := fun (l39, x40) =>
 if 1 ≤ x40 then
  ck (0 ≤ x40 ∧ x40 < ((l39.length : Nat) : Int)) <|
  ck (InI (x40 - 1)) <|
  ck (0 ≤ (x40 - 1) ∧ (x40 - 1) < ((l39.length : Nat) : Int)) <|
  (cmp_Less_int_F (l39.getD x40.toNat (0 : Int)) (l39.getD ((x40 - 1).toNat) (0 : Int))).bind fun r51 =>
  if (!r51) = true then
   some (.brk (l39, x40))
  else
   some (.go (((l39.set x40.toNat (l39.getD ((x40 - 1).toNat) (0 : Int))).set ((x40 - 1).toNat) (l39.getD x40.toNat (0 : Int))), (x40 - 1)))
 else
  some (.brk (l39, x40))
def slices_partialInsertionSortOrdered_int_B4 (p2 : Int) : ((List Int) × Int) → Option (Ct ((List Int) × Int) (Ct ((List Int) × Int × Nat) (Bool × (List Int)))) := fun (l58, x59) =>
 if x59 < p2 then
  ck (0 ≤ x59 ∧ x59 < ((l58.length : Nat) : Int)) <|
  ck (InI (x59 - 1)) <|
  ck (0 ≤ (x59 - 1) ∧ (x59 - 1) < ((l58.length : Nat) : Int)) <|
  (cmp_Less_int_F (l58.getD x59.toNat (0 : Int)) (l58.getD ((x59 - 1).toNat) (0 : Int))).bind fun r70 =>
  if (!r70) = true then
   some (.brk (l58, x59))
  else
   ck (InI (x59 + 1)) <|
   some (.go (((l58.set x59.toNat (l58.getD ((x59 - 1).toNat) (0 : Int))).set ((x59 - 1).toNat) (l58.getD x59.toNat (0 : Int))), (x59 + 1)))
 else
  some (.brk (l58, x59))
def slices_partialInsertionSortOrdered_int_B1 (p1 : Int) (p2 : Int) : ((List Int) × Int × Nat) → Option (Ct ((List Int) × Int × Nat) (Bool × (List Int))) := fun (l2, x3, n4) =>
 if ((n4 : Nat) : Int) < 5 then
  (loopC (slices_partialInsertionSortOrdered_int_B2 p2 l2) 1000000 x3).bind fun q => match q with
  | .go x17 =>
   if x17 = p2 then
    some (.ret (true, l2))
   else
    ck (InI (p2 - p1)) <|
    if (p2 - p1) < 50 then
     some (.ret (false, l2))
    else
     ck (InI (x17 - 1)) <|
     ck (0 ≤ (x17 - 1) ∧ (x17 - 1) < ((l2.length : Nat) : Int)) <|
     ck (0 ≤ x17 ∧ x17 < ((l2.length : Nat) : Int)) <|
     ((
      ck (InI (x17 - p1)) <|
      if 2 ≤ (x17 - p1) then
       (loopC (slices_partialInsertionSortOrdered_int_B3) 1000000 (((l2.set x17.toNat (l2.getD ((x17 - 1).toNat) (0 : Int))).set ((x17 - 1).toNat) (l2.getD x17.toNat (0 : Int))), (x17 - 1))).bind fun q => match q with
       | .go (l44, x45) =>
        some l44
       | .ret x => some x
      else
       some ((l2.set x17.toNat (l2.getD ((x17 - 1).toNat) (0 : Int))).set ((x17 - 1).toNat) (l2.getD x17.toNat (0 : Int)))) : Option ((List Int))).bind fun l34 =>
     ck (InI (p2 - x17)) <|
     if 2 ≤ (p2 - x17) then
      ck (InI (x17 + 1)) <|
      (loopC (slices_partialInsertionSortOrdered_int_B4 p2) 1000000 (l34, (x17 + 1))).bind fun q => match q with
      | .go (l63, x64) =>
       ck (InI (((n4 : Nat) : Int) + 1)) <|
       some (.go (l63, x17, (n4 + 1)))
      | .ret x => some x
     else
      ck (InI (((n4 : Nat) : Int) + 1)) <|
      some (.go (l34, x17, (n4 + 1)))
  | .ret x => some x
 else
  some (.brk (l2, x3, n4))
def slices_partialInsertionSortOrdered_int_F (p0 : (List Int)) (p1 : Int) (p2 : Int) : Option (Bool × (List Int)) :=
 ck (InI (p1 + 1)) <|
 (loopC (slices_partialInsertionSortOrdered_int_B1 p1 p2) 1000000 (p0, (p1 + 1), 0)).bind fun q => match q with
 | .go (l8, x9, n10) =>
  some (false, l8)
 | .ret x => some x
def slices_partialInsertionSortOrdered_int_P (out : Bool × (List Int)) (βp0 : BK) (d : D) (H : List HL) : Prop := d = .v (.bool out.1) ∧ H = [.one βp0 3 1 (row out.2)]
theorem slices_partialInsertionSortOrdered_int_I (out : Bool × (List Int)) (βp0 : BK) : IndepP (slices_partialInsertionSortOrdered_int_P out βp0) := IndepP.of (by rintro _ _ ⟨rfl, rfl⟩; exact ⟨inferInstance, inferInstance⟩)
set_option maxRecDepth 100000 in
set_option maxHeartbeats 4000000 in
theorem slices_partialInsertionSortOrdered_int_spec (p0 : (List Int)) (p1 : Int) (p2 : Int) (βp0 : BK) {out : Bool × (List Int)} (H : slices_partialInsertionSortOrdered_int_F p0 p1 p2 = some out) : Does Try.prog 84 [.own βp0 1 0 p0.length, .v (.int .i64 p1), .v (.int .i64 p2)] [.one βp0 3 1 (row p0)] (slices_partialInsertionSortOrdered_int_P out βp0) := by
 unfold slices_partialInsertionSortOrdered_int_F at H
 refine Does.intro Try.func84 rfl Try.ntmps84 rfl fun w0 I0 => ?_
 refine GoC.seq ?_
 refine GoC.region ?_
 refine GoO.pure (ps_assign rfl rfl) ?_
 refine GoO.nil ?_
 refine GoK.code ?_
 refine GoC.seq ?_
 refine GoC.region ?_
 refine GoO.pure (ps_move rfl rfl) ?_
 have c1 := ck_l H; replace H := ck_r H
 refine GoO.pure (ps_add rfl rfl rfl c1) ?_
 refine GoO.pure (ps_assign rfl rfl) ?_
 refine GoO.nil ?_
 refine GoK.code ?_
 refine GoC.seq ?_
 refine GoC.seq ?_
 refine GoC.region ?_
 refine GoO.pure (ps_assign rfl rfl) ?_
 refine GoO.nil ?_
 refine GoK.code ?_
 have hb := bind_l H; clear H
 obtain ⟨q7, hl77, HK5⟩ := hb
 refine GoC.blockJ [] [] (fun v h => ∃ (l8 : (List Int)) (x9 : Int) (n10 : Nat), q7 = .go (l8, x9, n10) ∧ v = [] ∧ h = [.one βp0 3 1 (row l8)]) ?_ ?_
 refine GoC.loopJ [(1, _), (2, _)] [] (fun mQ v h => ∃ (l2 : (List Int)) (x3 : Int) (n4 : Nat), loopC (slices_partialInsertionSortOrdered_int_B1 p1 p2) mQ (l2, x3, n4) = some q7 ∧ v = [(0, .own βp0 1 0 l2.length), (7, .v (.int .i64 x3)), (8, .v (.int .i64 ((n4 : Nat) : Int)))] ∧ h = [.one βp0 3 1 (row l2)]) 1000000 ⟨_, _, _, hl77, rfl, rfl⟩ (EnvD.cons rfl (DLe.len (by first | rfl | omega | (simp only [row_len, gridC_len, rowO_len] <;> first | rfl | omega))) (EnvD.eq rfl (EnvD.eq rfl (EnvD.eq rfl (EnvD.eq rfl (EnvD.nil)))))) (TkD.cons _ _ _ _ _ Rem.p0 (HLe.refl _) (TkD.nil _)) ?_
 rintro m11 v h ⟨l2, x3, n4, hF6, rfl, rfl⟩
 obtain ⟨m11', rfl⟩ | rfl : (∃ x, m11 = x + 1) ∨ m11 = 0 := by cases m11 <;> simp
 case inr => cases hF6
 have hb := bind_l hF6; clear hF6
 obtain ⟨qrm11, H, hF6⟩ := hb
 refine GoC.seq ?_
 refine GoC.seq ?_
 refine GoC.region ?_
 refine GoO.pure (ps_move rfl rfl) ?_
 refine GoO.pure (ps_lss rfl rfl rfl) ?_
 refine GoO.nil ?_
 refine GoK.code ?_
 refine GoC.condD rfl (fun h12 => ?_) (fun h12 => ?_)
 replace H := ite_t h12 H
 refine GoC.skip ?_
 refine GoK.code ?_
 refine GoC.seq ?_
 refine GoC.block ?_
 refine GoC.seq ?_
 have hb := bind_l H; clear H
 obtain ⟨q16, hl27, HK14⟩ := hb
 refine GoC.blockJ [(0, .own βp0 1 0 l2.length), (1, .v (.int .i64 p1)), (2, .v (.int .i64 p2)), (8, .v (.int .i64 ((n4 : Nat) : Int)))] [.one βp0 3 1 (row l2)] (fun v h => ∃ (x17 : Int), q16 = .go x17 ∧ v = [(7, .v (.int .i64 x17))] ∧ h = []) ?_ ?_
 refine GoC.loopJ [(0, _), (1, _), (2, _), (8, _)] [.one βp0 3 1 (row l2)] (fun mQ v h => ∃ (x13 : Int), loopC (slices_partialInsertionSortOrdered_int_B2 p2 l2) mQ x13 = some q16 ∧ v = [(7, .v (.int .i64 x13))] ∧ h = []) 1000000 ⟨_, hl27, rfl, rfl⟩ (EnvD.eq rfl (EnvD.eq rfl (EnvD.eq rfl (EnvD.eq rfl (EnvD.eq rfl (EnvD.nil)))))) (TkD.cons _ _ _ _ _ Rem.p0 (HLe.refl _) (TkD.nil _)) ?_
 rintro m18 v h ⟨x13, hF15, rfl, rfl⟩
 obtain ⟨m18', rfl⟩ | rfl : (∃ x, m18 = x + 1) ∨ m18 = 0 := by cases m18 <;> simp
 case inr => cases hF15
 have hb := bind_l hF15; clear hF15
 obtain ⟨qrm18, H, hF15⟩ := hb
 refine GoC.seq ?_
 refine GoC.seq ?_
 refine GoC.drawA (.q 0 (.q 1 (.q 2 (.q 3 (.q 4 (.q 5 (.q 6 (.q 7 (.q 8 (.q 9 (.q 10 (.q 11 (.q 12 (.one 13 (.q 14 (.q 15 (.done))))))))))))))))) follows (by kernel_rfl) ?_
 refine GoP.qN rfl (ps_move rfl rfl) ?_
 refine GoP.qN rfl (ps_move rfl rfl) ?_
 refine GoP.qN rfl (ps_lss rfl rfl rfl) ?_
 refine GoP.qN rfl (ps_move rfl rfl) ?_
 refine GoP.decideD 20 rfl (fun h19 => ?_) (fun h19 => ?_)
 replace H := ite_t h19 H
 refine GoP.qT rfl rfl rfl rfl (ps_move rfl rfl) ?_
 refine GoP.qT rfl rfl rfl rfl (ps_move rfl rfl) ?_
 have c20 := ck_l H; replace H := ck_r H
 refine GoP.qT rfl rfl rfl rfl (ps_indexAddr0 rfl rfl c20 rfl) ?_
 refine GoP.qT rfl rfl rfl rfl (ps_load rfl At.p0 At.p0 (idx_lt c20) rfl rfl) ?_
 refine GoP.qT rfl rfl rfl rfl (ps_move rfl rfl) ?_
 refine GoP.qT rfl rfl rfl rfl (ps_move rfl rfl) ?_
 have c21 := ck_l H; replace H := ck_r H
 refine GoP.qT rfl rfl rfl rfl (ps_sub rfl rfl rfl c21) ?_
 have c22 := ck_l H; replace H := ck_r H
 refine GoP.qT rfl rfl rfl rfl (ps_indexAddr0 rfl rfl c22 rfl) ?_
 refine GoP.qT rfl rfl rfl rfl (ps_load rfl At.p0 At.p0 (idx_lt c22) rfl rfl) ?_
 have hb := bind_l H; clear H
 obtain ⟨r23, e24, H⟩ := hb
 refine GoP.oneC rfl ⟨_, rfl, rfl, rfl⟩ (ef_call rfl (Take.nil _) (Take.nil _) (cmp_Less_int_spec (l2.getD x13.toNat (0 : Int)) (l2.getD ((x13 - 1).toNat) (0 : Int)) e24) (LendL.cons (Lend.refl _ _) (LendL.cons (Lend.refl _ _) (LendL.nil))) rfl (cmp_Less_int_I (r23))) (Take.cons _ _ _ _ _ Rem.p0 (Take.nil _)) (fun rr HH hp => ?_)
 obtain ⟨rfl, rfl⟩ := hp
 refine GoP.qT rfl rfl rfl rfl (ps_not rfl rfl) ?_
 refine GoP.qN rfl (ps_pickT rfl rfl rfl) ?_
 refine GoP.done ?_
 refine GoK.code ?_
 refine GoC.cond rfl (fun h25 => ?_) (fun h25 => ?_)
 replace H := itb_t h25 H
 refine GoC.skip ?_
 refine GoK.code ?_
 refine GoC.block ?_
 refine GoC.region ?_
 refine GoO.pure (ps_move rfl rfl) ?_
 have c26 := ck_l H; replace H := ck_r H
 refine GoO.pure (ps_add rfl rfl rfl c26) ?_
 refine GoO.pure (ps_assign rfl rfl) ?_
 refine GoO.nil ?_
 refine GoK.blk ?_
 obtain rfl := Option.some.inj H
 exact GoK.againJ m18' (by omega) ⟨_, hF15, rfl, rfl⟩ (EnvD.eq rfl (EnvD.eq rfl (EnvD.eq rfl (EnvD.eq rfl (EnvD.eq rfl (EnvD.nil)))))) (TkD.cons _ _ _ _ _ Rem.p0 (HLe.refl _) (TkD.nil _))
 replace H := itb_f h25 H
 refine GoC.exit rfl ?_
 obtain rfl := Option.some.inj H
 obtain rfl := Option.some.inj hF15
 exact GoK.meet ⟨_, rfl, rfl, rfl⟩ (EnvD.eq rfl (EnvD.eq rfl (EnvD.eq rfl (EnvD.eq rfl (EnvD.eq rfl (EnvD.nil)))))) (TkD.cons _ _ _ _ _ Rem.p0 (HLe.refl _) (TkD.nil _))
 replace H := ite_f h19 H
 refine GoP.qF rfl rfl rfl rfl rfl ?_
 refine GoP.qF rfl rfl rfl rfl rfl ?_
 refine GoP.qF rfl rfl rfl rfl rfl ?_
 refine GoP.qF rfl rfl rfl rfl rfl ?_
 refine GoP.qF rfl rfl rfl rfl rfl ?_
 refine GoP.qF rfl rfl rfl rfl rfl ?_
 refine GoP.qF rfl rfl rfl rfl rfl ?_
 refine GoP.qF rfl rfl rfl rfl rfl ?_
 refine GoP.qF rfl rfl rfl rfl rfl ?_
 refine GoP.oneF rfl rfl rfl rfl rfl ?_
 refine GoP.qF rfl rfl rfl rfl rfl ?_
 refine GoP.qN rfl (ps_pickF rfl rfl rfl) ?_
 refine GoP.done ?_
 refine GoK.code ?_
 refine GoC.condF rfl ?_
 refine GoC.exit rfl ?_
 obtain rfl := Option.some.inj H
 obtain rfl := Option.some.inj hF15
 exact GoK.meet ⟨_, rfl, rfl, rfl⟩ (EnvD.eq rfl (EnvD.eq rfl (EnvD.eq rfl (EnvD.eq rfl (EnvD.eq rfl (EnvD.nil)))))) (TkD.cons _ _ _ _ _ Rem.p0 (HLe.refl _) (TkD.nil _))
 rintro v h ⟨x17, rfl, rfl, rfl⟩
 have H := HK14; clear HK14
 refine GoK.code ?_
 refine GoC.seq ?_
 refine GoC.seq ?_
 refine GoC.region ?_
 refine GoO.pure (ps_move rfl rfl) ?_
 refine GoO.pure (ps_move rfl rfl) ?_
 refine GoO.pure (ps_eql rfl rfl rfl) ?_
 refine GoO.nil ?_
 refine GoK.code ?_
 refine GoC.condD rfl (fun h28 => ?_) (fun h28 => ?_)
 replace H := ite_t h28 H
 refine GoC.seq ?_
 refine GoC.region ?_
 refine GoO.pure (ps_assign rfl rfl) ?_
 refine GoO.nil ?_
 refine GoK.code ?_
 obtain rfl := Option.some.inj H
 obtain rfl := Option.some.inj hF6
 obtain rfl := Option.some.inj HK5
 exact GoC.retL (ds := [.v (.bool true)]) Try.results84 (ResL.cons (ResD.tmp rfl) (ResL.nil)) (Take.cons _ _ _ _ _ Rem.p0 (Take.nil _)) ⟨rfl, rfl⟩
 replace H := ite_f h28 H
 refine GoC.skip ?_
 refine GoK.code ?_
 refine GoC.seq ?_
 refine GoC.seq ?_
 refine GoC.region ?_
 refine GoO.pure (ps_move rfl rfl) ?_
 refine GoO.pure (ps_move rfl rfl) ?_
 have c29 := ck_l H; replace H := ck_r H
 refine GoO.pure (ps_sub rfl rfl rfl c29) ?_
 refine GoO.pure (ps_lss rfl rfl rfl) ?_
 refine GoO.nil ?_
 refine GoK.code ?_
 refine GoC.condD rfl (fun h30 => ?_) (fun h30 => ?_)
 replace H := ite_t h30 H
 refine GoC.seq ?_
 refine GoC.region ?_
 refine GoO.pure (ps_assign rfl rfl) ?_
 refine GoO.nil ?_
 refine GoK.code ?_
 obtain rfl := Option.some.inj H
 obtain rfl := Option.some.inj hF6
 obtain rfl := Option.some.inj HK5
 exact GoC.retL (ds := [.v (.bool false)]) Try.results84 (ResL.cons (ResD.tmp rfl) (ResL.nil)) (Take.cons _ _ _ _ _ Rem.p0 (Take.nil _)) ⟨rfl, rfl⟩
 replace H := ite_f h30 H
 refine GoC.skip ?_
 refine GoK.code ?_
 refine GoC.seq ?_
 refine GoC.drawP (.q 0 (.q 1 (.q 2 (.q 3 (.q 4 (.q 5 (.q 6 (.q 7 (.q 8 (.q 10 (.q 11 (.q 12 (.two 9 13 (.one 13 (.q 14 (.one 15 (.q 16 (.one 17 (.done)))))) (.one 9 (.q 14 (.one 15 (.q 16 (.one 17 (.done))))))))))))))))))) [] follows (by kernel_rfl) (Take.nil _) ?_
 refine GoP.qN rfl (ps_move rfl rfl) ?_
 refine GoP.qN rfl (ps_move rfl rfl) ?_
 refine GoP.qN rfl (ps_move rfl rfl) ?_
 refine GoP.qN rfl (ps_move rfl rfl) ?_
 have c31 := ck_l H; replace H := ck_r H
 refine GoP.qN rfl (ps_sub rfl rfl rfl c31) ?_
 refine GoP.qN rfl (ps_move rfl rfl) ?_
 refine GoP.qN rfl (ps_move rfl rfl) ?_
 refine GoP.qN rfl (ps_sub rfl rfl rfl c31) ?_
 have c32 := ck_l H; replace H := ck_r H
 refine GoP.qN rfl (ps_indexAddr0 rfl rfl c32 rfl) ?_
 refine GoP.qN rfl (ps_move rfl rfl) ?_
 refine GoP.qN rfl (ps_move rfl rfl) ?_
 have c33 := ck_l H; replace H := ck_r H
 refine GoP.qN rfl (ps_indexAddr0 rfl rfl c33 rfl) ?_
 apply GoP.fork0
 exact rfl
 exact rfl
 exact trivial
 exact trivial
 exact Eff.pure (H1 := [.one βp0 3 1 (row l2)]) (ps_load rfl At.p0 At.p0 (idx_lt c32) rfl rfl)
 exact Eff.pure (H1 := [.one βp0 3 1 (row l2)]) (ps_load rfl At.p0 At.p0 (idx_lt c33) rfl rfl)
 exact (Take.nil _)
 exact (Take.nil _)
 intro hQ
 rintro _ rfl
 refine GoP.oneN rfl (ps_load rfl At.p0 At.p0 (idx_lt c33) rfl rfl) (Take.nil _) ?_
 refine GoP.qN rfl (ps_indexAddr0 rfl rfl c33 rfl) ?_
 refine GoP.one1 rfl trivial (ef_store rfl rfl rfl At.p0 (upd_row1 (v := (l2.getD ((x17 - 1).toNat) (0 : Int))) rfl) (idx_lt c33) rfl) (Take.cons _ _ _ _ _ Rem.p0 (Take.nil _)) ?_
 refine GoP.qN rfl (ps_indexAddr0 rfl rfl c32 rfl) ?_
 refine GoP.one1 rfl trivial (ef_store rfl rfl rfl At.p0 (upd_row1 (v := (l2.getD x17.toNat (0 : Int))) rfl) (lt_len (idx_lt c32) (by first | rfl | omega | (simp only [row_len, gridC_len, rowO_len, List.length_set] <;> first | rfl | omega))) rfl) (Take.cons _ _ _ _ _ Rem.p0 (Take.nil _)) ?_
 exact GoP.done (hQ)
 intro hQ
 rintro _ rfl
 refine GoP.oneN rfl (ps_load rfl At.p0 At.p0 (idx_lt c32) rfl rfl) (Take.nil _) ?_
 refine GoP.qN rfl (ps_indexAddr0 rfl rfl c33 rfl) ?_
 refine GoP.one1 rfl trivial (ef_store rfl rfl rfl At.p0 (upd_row1 (v := (l2.getD ((x17 - 1).toNat) (0 : Int))) rfl) (idx_lt c33) rfl) (Take.cons _ _ _ _ _ Rem.p0 (Take.nil _)) ?_
 refine GoP.qN rfl (ps_indexAddr0 rfl rfl c32 rfl) ?_
 refine GoP.one1 rfl trivial (ef_store rfl rfl rfl At.p0 (upd_row1 (v := (l2.getD x17.toNat (0 : Int))) rfl) (lt_len (idx_lt c32) (by first | rfl | omega | (simp only [row_len, gridC_len, rowO_len, List.length_set] <;> first | rfl | omega))) rfl) (Take.cons _ _ _ _ _ Rem.p0 (Take.nil _)) ?_
 refine GoP.done (GoK.le ?_ (hQ))
 refine Le.ofDW ?_ (TkD.cons _ _ _ _ _ Rem.p0 (HLe.refl _) (TkD.nil _))
 repeat (first | exact EnvLeW.nil | refine EnvLeW.cons rfl ?_ | refine EnvLeW.skip rfl ?_)
 refine GoK.code ?_
 have hb := bind_l H; clear H
 obtain ⟨l34, H, HK35⟩ := hb
 refine GoC.seqJ [(1, .v (.int .i64 p1)), (2, .v (.int .i64 p2)), (7, .v (.int .i64 x17)), (8, .v (.int .i64 ((n4 : Nat) : Int)))] [] (fun v h => v = [(0, .own βp0 1 0 l34.length)] ∧ h = [.one βp0 3 1 (row l34)]) ?_ ?_
 refine GoC.seq ?_
 refine GoC.region ?_
 refine GoO.pure (ps_move rfl rfl) ?_
 refine GoO.pure (ps_move rfl rfl) ?_
 have c37 := ck_l H; replace H := ck_r H
 refine GoO.pure (ps_sub rfl rfl rfl c37) ?_
 refine GoO.pure (ps_geq rfl rfl rfl) ?_
 refine GoO.nil ?_
 refine GoK.code ?_
 refine GoC.condD rfl (fun h38 => ?_) (fun h38 => ?_)
 replace H := ite_t h38 H
 refine GoC.seq ?_
 refine GoC.region ?_
 refine GoO.pure (ps_move rfl rfl) ?_
 refine GoO.pure (ps_sub rfl rfl rfl c31) ?_
 refine GoO.pure (ps_assign rfl rfl) ?_
 refine GoO.nil ?_
 refine GoK.code ?_
 have hb := bind_l H; clear H
 obtain ⟨q43, hl54, HK41⟩ := hb
 refine GoC.blockJ [(1, .v (.int .i64 p1)), (2, .v (.int .i64 p2)), (7, .v (.int .i64 x17)), (8, .v (.int .i64 ((n4 : Nat) : Int)))] [] (fun v h => ∃ (l44 : (List Int)) (x45 : Int), q43 = .go (l44, x45) ∧ v = [(0, .own βp0 1 0 l44.length)] ∧ h = [.one βp0 3 1 (row l44)]) ?_ ?_
 refine GoC.loopJ [(1, _), (2, _), (7, _), (8, _)] [] (fun mQ v h => ∃ (l39 : (List Int)) (x40 : Int), loopC (slices_partialInsertionSortOrdered_int_B3) mQ (l39, x40) = some q43 ∧ v = [(0, .own βp0 1 0 l39.length), (9, .v (.int .i64 x40))] ∧ h = [.one βp0 3 1 (row l39)]) 1000000 ⟨_, _, hl54, rfl, rfl⟩ (EnvD.cons rfl (DLe.len (by first | rfl | omega | (simp only [row_len, gridC_len, rowO_len, List.length_set] <;> first | rfl | omega))) (EnvD.eq rfl (EnvD.eq rfl (EnvD.eq rfl (EnvD.eq rfl (EnvD.eq rfl (EnvD.nil))))))) (TkD.cons _ _ _ _ _ Rem.p0 (HLe.refl _) (TkD.nil _)) ?_
 rintro m46 v h ⟨l39, x40, hF42, rfl, rfl⟩
 obtain ⟨m46', rfl⟩ | rfl : (∃ x, m46 = x + 1) ∨ m46 = 0 := by cases m46 <;> simp
 case inr => cases hF42
 have hb := bind_l hF42; clear hF42
 obtain ⟨qrm46, H, hF42⟩ := hb
 refine GoC.seq ?_
 refine GoC.seq ?_
 refine GoC.region ?_
 refine GoO.pure (ps_move rfl rfl) ?_
 refine GoO.pure (ps_geq rfl rfl rfl) ?_
 refine GoO.nil ?_
 refine GoK.code ?_
 refine GoC.condD rfl (fun h47 => ?_) (fun h47 => ?_)
 replace H := ite_t h47 H
 refine GoC.skip ?_
 refine GoK.code ?_
 refine GoC.seq ?_
 refine GoC.block ?_
 refine GoC.seq ?_
 refine GoC.seq ?_
 refine GoC.drawA (.q 0 (.q 1 (.q 2 (.q 3 (.q 4 (.q 5 (.q 6 (.q 7 (.q 8 (.one 9 (.q 10 (.done)))))))))))) follows (by kernel_rfl) ?_
 refine GoP.qN rfl (ps_move rfl rfl) ?_
 refine GoP.qN rfl (ps_move rfl rfl) ?_
 have c48 := ck_l H; replace H := ck_r H
 refine GoP.qN rfl (ps_indexAddr0 rfl rfl c48 rfl) ?_
 refine GoP.qN rfl (ps_load rfl At.p0 At.p0 (idx_lt c48) rfl rfl) ?_
 refine GoP.qN rfl (ps_move rfl rfl) ?_
 refine GoP.qN rfl (ps_move rfl rfl) ?_
 have c49 := ck_l H; replace H := ck_r H
 refine GoP.qN rfl (ps_sub rfl rfl rfl c49) ?_
 have c50 := ck_l H; replace H := ck_r H
 refine GoP.qN rfl (ps_indexAddr0 rfl rfl c50 rfl) ?_
 refine GoP.qN rfl (ps_load rfl At.p0 At.p0 (idx_lt c50) rfl rfl) ?_
 have hb := bind_l H; clear H
 obtain ⟨r51, e52, H⟩ := hb
 refine GoP.oneC rfl trivial (ef_call rfl (Take.nil _) (Take.nil _) (cmp_Less_int_spec (l39.getD x40.toNat (0 : Int)) (l39.getD ((x40 - 1).toNat) (0 : Int)) e52) (LendL.cons (Lend.refl _ _) (LendL.cons (Lend.refl _ _) (LendL.nil))) rfl (cmp_Less_int_I (r51))) (Take.cons _ _ _ _ _ Rem.p0 (Take.nil _)) (fun rr HH hp => ?_)
 obtain ⟨rfl, rfl⟩ := hp
 refine GoP.qN rfl (ps_not rfl rfl) ?_
 refine GoP.done ?_
 refine GoK.code ?_
 refine GoC.cond rfl (fun h53 => ?_) (fun h53 => ?_)
 replace H := itb_t h53 H
 refine GoC.exit rfl ?_
 obtain rfl := Option.some.inj H
 obtain rfl := Option.some.inj hF42
 exact GoK.meet ⟨_, _, rfl, rfl, rfl⟩ (EnvD.cons rfl (DLe.len (by first | rfl | omega | (simp only [row_len, gridC_len, rowO_len] <;> first | rfl | omega))) (EnvD.eq rfl (EnvD.eq rfl (EnvD.eq rfl (EnvD.eq rfl (EnvD.nil)))))) (TkD.cons _ _ _ _ _ Rem.p0 (HLe.refl _) (TkD.nil _))
 replace H := itb_f h53 H
 refine GoC.skip ?_
 refine GoK.code ?_
 refine GoC.drawP (.q 0 (.q 1 (.q 2 (.q 3 (.q 4 (.q 5 (.q 6 (.q 7 (.q 8 (.q 10 (.q 11 (.q 12 (.two 9 13 (.one 13 (.q 14 (.one 15 (.q 16 (.one 17 (.done)))))) (.one 9 (.q 14 (.one 15 (.q 16 (.one 17 (.done))))))))))))))))))) [] follows (by kernel_rfl) (Take.nil _) ?_
 refine GoP.qN rfl (ps_move rfl rfl) ?_
 refine GoP.qN rfl (ps_move rfl rfl) ?_
 refine GoP.qN rfl (ps_move rfl rfl) ?_
 refine GoP.qN rfl (ps_move rfl rfl) ?_
 refine GoP.qN rfl (ps_sub rfl rfl rfl c49) ?_
 refine GoP.qN rfl (ps_move rfl rfl) ?_
 refine GoP.qN rfl (ps_move rfl rfl) ?_
 refine GoP.qN rfl (ps_sub rfl rfl rfl c49) ?_
 refine GoP.qN rfl (ps_indexAddr0 rfl rfl c50 rfl) ?_
 refine GoP.qN rfl (ps_move rfl rfl) ?_
 refine GoP.qN rfl (ps_move rfl rfl) ?_
 refine GoP.qN rfl (ps_indexAddr0 rfl rfl c48 rfl) ?_
 apply GoP.fork0
 exact rfl
 exact rfl
 exact trivial
 exact trivial
 exact Eff.pure (H1 := [.one βp0 3 1 (row l39)]) (ps_load rfl At.p0 At.p0 (idx_lt c50) rfl rfl)
 exact Eff.pure (H1 := [.one βp0 3 1 (row l39)]) (ps_load rfl At.p0 At.p0 (idx_lt c48) rfl rfl)
 exact (Take.nil _)
 exact (Take.nil _)
 intro hQ
 rintro _ rfl
 refine GoP.oneN rfl (ps_load rfl At.p0 At.p0 (idx_lt c48) rfl rfl) (Take.nil _) ?_
 refine GoP.qN rfl (ps_indexAddr0 rfl rfl c48 rfl) ?_
 refine GoP.one1 rfl trivial (ef_store rfl rfl rfl At.p0 (upd_row1 (v := (l39.getD ((x40 - 1).toNat) (0 : Int))) rfl) (idx_lt c48) rfl) (Take.cons _ _ _ _ _ Rem.p0 (Take.nil _)) ?_
 refine GoP.qN rfl (ps_indexAddr0 rfl rfl c50 rfl) ?_
 refine GoP.one1 rfl trivial (ef_store rfl rfl rfl At.p0 (upd_row1 (v := (l39.getD x40.toNat (0 : Int))) rfl) (lt_len (idx_lt c50) (by first | rfl | omega | (simp only [row_len, gridC_len, rowO_len, List.length_set] <;> first | rfl | omega))) rfl) (Take.cons _ _ _ _ _ Rem.p0 (Take.nil _)) ?_
 exact GoP.done (hQ)
 intro hQ
 rintro _ rfl
 refine GoP.oneN rfl (ps_load rfl At.p0 At.p0 (idx_lt c50) rfl rfl) (Take.nil _) ?_
 refine GoP.qN rfl (ps_indexAddr0 rfl rfl c48 rfl) ?_
 refine GoP.one1 rfl trivial (ef_store rfl rfl rfl At.p0 (upd_row1 (v := (l39.getD ((x40 - 1).toNat) (0 : Int))) rfl) (idx_lt c48) rfl) (Take.cons _ _ _ _ _ Rem.p0 (Take.nil _)) ?_
 refine GoP.qN rfl (ps_indexAddr0 rfl rfl c50 rfl) ?_
 refine GoP.one1 rfl trivial (ef_store rfl rfl rfl At.p0 (upd_row1 (v := (l39.getD x40.toNat (0 : Int))) rfl) (lt_len (idx_lt c50) (by first | rfl | omega | (simp only [row_len, gridC_len, rowO_len, List.length_set] <;> first | rfl | omega))) rfl) (Take.cons _ _ _ _ _ Rem.p0 (Take.nil _)) ?_
 refine GoP.done (GoK.le ?_ (hQ))
 refine Le.ofDW ?_ (TkD.cons _ _ _ _ _ Rem.p0 (HLe.refl _) (TkD.nil _))
 repeat (first | exact EnvLeW.nil | refine EnvLeW.cons rfl ?_ | refine EnvLeW.skip rfl ?_)
 refine GoK.blk ?_
 refine GoK.code ?_
 refine GoC.region ?_
 refine GoO.pure (ps_move rfl rfl) ?_
 refine GoO.pure (ps_sub rfl rfl rfl c49) ?_
 refine GoO.pure (ps_assign rfl rfl) ?_
 refine GoO.nil ?_
 obtain rfl := Option.some.inj H
 exact GoK.againJ m46' (by omega) ⟨_, _, hF42, rfl, rfl⟩ (EnvD.cons rfl (DLe.len (by first | rfl | omega | (simp only [row_len, gridC_len, rowO_len, List.length_set] <;> first | rfl | omega))) (EnvD.eq rfl (EnvD.eq rfl (EnvD.eq rfl (EnvD.eq rfl (EnvD.eq rfl (EnvD.nil))))))) (TkD.cons _ _ _ _ _ Rem.p0 (HLe.refl _) (TkD.nil _))
 replace H := ite_f h47 H
 refine GoC.exit rfl ?_
 obtain rfl := Option.some.inj H
 obtain rfl := Option.some.inj hF42
 exact GoK.meet ⟨_, _, rfl, rfl, rfl⟩ (EnvD.cons rfl (DLe.len (by first | rfl | omega | (simp only [row_len, gridC_len, rowO_len] <;> first | rfl | omega))) (EnvD.eq rfl (EnvD.eq rfl (EnvD.eq rfl (EnvD.eq rfl (EnvD.nil)))))) (TkD.cons _ _ _ _ _ Rem.p0 (HLe.refl _) (TkD.nil _))
 rintro v h ⟨l44, x45, rfl, rfl, rfl⟩
 have H := HK41; clear HK41
 cases H
 exact GoK.meet ⟨rfl, rfl⟩ (EnvD.cons rfl (DLe.len (by first | rfl | omega | (simp only [row_len, gridC_len, rowO_len] <;> first | rfl | omega))) (EnvD.eq rfl (EnvD.eq rfl (EnvD.eq rfl (EnvD.eq rfl (EnvD.nil)))))) (TkD.cons _ _ _ _ _ Rem.p0 (HLe.refl _) (TkD.nil _))
 replace H := ite_f h38 H
 refine GoC.skip ?_
 cases H
 exact GoK.meet ⟨rfl, rfl⟩ (EnvD.cons rfl (DLe.len (by first | rfl | omega | (simp only [row_len, gridC_len, rowO_len, List.length_set] <;> first | rfl | omega))) (EnvD.eq rfl (EnvD.eq rfl (EnvD.eq rfl (EnvD.eq rfl (EnvD.nil)))))) (TkD.cons _ _ _ _ _ Rem.p0 (HLe.refl _) (TkD.nil _))
 rintro v h ⟨rfl, rfl⟩
 have H := HK35; clear HK35
 refine GoC.seq ?_
 refine GoC.region ?_
 refine GoO.pure (ps_move rfl rfl) ?_
 refine GoO.pure (ps_move rfl rfl) ?_
 have c55 := ck_l H; replace H := ck_r H
 refine GoO.pure (ps_sub rfl rfl rfl c55) ?_
 refine GoO.pure (ps_geq rfl rfl rfl) ?_
 refine GoO.nil ?_
 refine GoK.code ?_
 refine GoC.condD rfl (fun h56 => ?_) (fun h56 => ?_)
 replace H := ite_t h56 H
 refine GoC.seq ?_
 refine GoC.region ?_
 refine GoO.pure (ps_move rfl rfl) ?_
 have c57 := ck_l H; replace H := ck_r H
 refine GoO.pure (ps_add rfl rfl rfl c57) ?_
 refine GoO.pure (ps_assign rfl rfl) ?_
 refine GoO.nil ?_
 refine GoK.code ?_
 have hb := bind_l H; clear H
 obtain ⟨q62, hl74, HK60⟩ := hb
 refine GoC.blockJ [(1, .v (.int .i64 p1)), (2, .v (.int .i64 p2)), (7, .v (.int .i64 x17)), (8, .v (.int .i64 ((n4 : Nat) : Int)))] [] (fun v h => ∃ (l63 : (List Int)) (x64 : Int), q62 = .go (l63, x64) ∧ v = [(0, .own βp0 1 0 l63.length)] ∧ h = [.one βp0 3 1 (row l63)]) ?_ ?_
 refine GoC.loopJ [(1, _), (2, _), (7, _), (8, _)] [] (fun mQ v h => ∃ (l58 : (List Int)) (x59 : Int), loopC (slices_partialInsertionSortOrdered_int_B4 p2) mQ (l58, x59) = some q62 ∧ v = [(0, .own βp0 1 0 l58.length), (10, .v (.int .i64 x59))] ∧ h = [.one βp0 3 1 (row l58)]) 1000000 ⟨_, _, hl74, rfl, rfl⟩ (EnvD.cons rfl (DLe.len (by first | rfl | omega | (simp only [row_len, gridC_len, rowO_len] <;> first | rfl | omega))) (EnvD.eq rfl (EnvD.eq rfl (EnvD.eq rfl (EnvD.eq rfl (EnvD.eq rfl (EnvD.nil))))))) (TkD.cons _ _ _ _ _ Rem.p0 (HLe.refl _) (TkD.nil _)) ?_
 rintro m65 v h ⟨l58, x59, hF61, rfl, rfl⟩
 obtain ⟨m65', rfl⟩ | rfl : (∃ x, m65 = x + 1) ∨ m65 = 0 := by cases m65 <;> simp
 case inr => cases hF61
 have hb := bind_l hF61; clear hF61
 obtain ⟨qrm65, H, hF61⟩ := hb
 refine GoC.seq ?_
 refine GoC.seq ?_
 refine GoC.region ?_
 refine GoO.pure (ps_move rfl rfl) ?_
 refine GoO.pure (ps_move rfl rfl) ?_
 refine GoO.pure (ps_lss rfl rfl rfl) ?_
 refine GoO.nil ?_
 refine GoK.code ?_
 refine GoC.condD rfl (fun h66 => ?_) (fun h66 => ?_)
 replace H := ite_t h66 H
 refine GoC.skip ?_
 refine GoK.code ?_
 refine GoC.seq ?_
 refine GoC.block ?_
 refine GoC.seq ?_
 refine GoC.seq ?_
 refine GoC.drawA (.q 0 (.q 1 (.q 2 (.q 3 (.q 4 (.q 5 (.q 6 (.q 7 (.q 8 (.one 9 (.q 10 (.done)))))))))))) follows (by kernel_rfl) ?_
 refine GoP.qN rfl (ps_move rfl rfl) ?_
 refine GoP.qN rfl (ps_move rfl rfl) ?_
 have c67 := ck_l H; replace H := ck_r H
 refine GoP.qN rfl (ps_indexAddr0 rfl rfl c67 rfl) ?_
 refine GoP.qN rfl (ps_load rfl At.p0 At.p0 (idx_lt c67) rfl rfl) ?_
 refine GoP.qN rfl (ps_move rfl rfl) ?_
 refine GoP.qN rfl (ps_move rfl rfl) ?_
 have c68 := ck_l H; replace H := ck_r H
 refine GoP.qN rfl (ps_sub rfl rfl rfl c68) ?_
 have c69 := ck_l H; replace H := ck_r H
 refine GoP.qN rfl (ps_indexAddr0 rfl rfl c69 rfl) ?_
 refine GoP.qN rfl (ps_load rfl At.p0 At.p0 (idx_lt c69) rfl rfl) ?_
 have hb := bind_l H; clear H
 obtain ⟨r70, e71, H⟩ := hb
 refine GoP.oneC rfl trivial (ef_call rfl (Take.nil _) (Take.nil _) (cmp_Less_int_spec (l58.getD x59.toNat (0 : Int)) (l58.getD ((x59 - 1).toNat) (0 : Int)) e71) (LendL.cons (Lend.refl _ _) (LendL.cons (Lend.refl _ _) (LendL.nil))) rfl (cmp_Less_int_I (r70))) (Take.cons _ _ _ _ _ Rem.p0 (Take.nil _)) (fun rr HH hp => ?_)
 obtain ⟨rfl, rfl⟩ := hp
 refine GoP.qN rfl (ps_not rfl rfl) ?_
 refine GoP.done ?_
 refine GoK.code ?_
 refine GoC.cond rfl (fun h72 => ?_) (fun h72 => ?_)
 replace H := itb_t h72 H
 refine GoC.exit rfl ?_
 obtain rfl := Option.some.inj H
 obtain rfl := Option.some.inj hF61
 exact GoK.meet ⟨_, _, rfl, rfl, rfl⟩ (EnvD.cons rfl (DLe.len (by first | rfl | omega | (simp only [row_len, gridC_len, rowO_len] <;> first | rfl | omega))) (EnvD.eq rfl (EnvD.eq rfl (EnvD.eq rfl (EnvD.eq rfl (EnvD.nil)))))) (TkD.cons _ _ _ _ _ Rem.p0 (HLe.refl _) (TkD.nil _))
 replace H := itb_f h72 H
 refine GoC.skip ?_
 refine GoK.code ?_
 refine GoC.drawP (.q 0 (.q 1 (.q 2 (.q 3 (.q 4 (.q 5 (.q 6 (.q 7 (.q 8 (.q 10 (.q 11 (.q 12 (.two 9 13 (.one 13 (.q 14 (.one 15 (.q 16 (.one 17 (.done)))))) (.one 9 (.q 14 (.one 15 (.q 16 (.one 17 (.done))))))))))))))))))) [] follows (by kernel_rfl) (Take.nil _) ?_
 refine GoP.qN rfl (ps_move rfl rfl) ?_
 refine GoP.qN rfl (ps_move rfl rfl) ?_
 refine GoP.qN rfl (ps_move rfl rfl) ?_
 refine GoP.qN rfl (ps_move rfl rfl) ?_
 refine GoP.qN rfl (ps_sub rfl rfl rfl c68) ?_
 refine GoP.qN rfl (ps_move rfl rfl) ?_
 refine GoP.qN rfl (ps_move rfl rfl) ?_
 refine GoP.qN rfl (ps_sub rfl rfl rfl c68) ?_
 refine GoP.qN rfl (ps_indexAddr0 rfl rfl c69 rfl) ?_
 refine GoP.qN rfl (ps_move rfl rfl) ?_
 refine GoP.qN rfl (ps_move rfl rfl) ?_
 refine GoP.qN rfl (ps_indexAddr0 rfl rfl c67 rfl) ?_
 apply GoP.fork0
 exact rfl
 exact rfl
 exact trivial
 exact trivial
 exact Eff.pure (H1 := [.one βp0 3 1 (row l58)]) (ps_load rfl At.p0 At.p0 (idx_lt c69) rfl rfl)
 exact Eff.pure (H1 := [.one βp0 3 1 (row l58)]) (ps_load rfl At.p0 At.p0 (idx_lt c67) rfl rfl)
 exact (Take.nil _)
 exact (Take.nil _)
 intro hQ
 rintro _ rfl
 refine GoP.oneN rfl (ps_load rfl At.p0 At.p0 (idx_lt c67) rfl rfl) (Take.nil _) ?_
 refine GoP.qN rfl (ps_indexAddr0 rfl rfl c67 rfl) ?_
 refine GoP.one1 rfl trivial (ef_store rfl rfl rfl At.p0 (upd_row1 (v := (l58.getD ((x59 - 1).toNat) (0 : Int))) rfl) (idx_lt c67) rfl) (Take.cons _ _ _ _ _ Rem.p0 (Take.nil _)) ?_
 refine GoP.qN rfl (ps_indexAddr0 rfl rfl c69 rfl) ?_
 refine GoP.one1 rfl trivial (ef_store rfl rfl rfl At.p0 (upd_row1 (v := (l58.getD x59.toNat (0 : Int))) rfl) (lt_len (idx_lt c69) (by first | rfl | omega | (simp only [row_len, gridC_len, rowO_len, List.length_set] <;> first | rfl | omega))) rfl) (Take.cons _ _ _ _ _ Rem.p0 (Take.nil _)) ?_
 exact GoP.done (hQ)
 intro hQ
 rintro _ rfl
 refine GoP.oneN rfl (ps_load rfl At.p0 At.p0 (idx_lt c69) rfl rfl) (Take.nil _) ?_
 refine GoP.qN rfl (ps_indexAddr0 rfl rfl c67 rfl) ?_
 refine GoP.one1 rfl trivial (ef_store rfl rfl rfl At.p0 (upd_row1 (v := (l58.getD ((x59 - 1).toNat) (0 : Int))) rfl) (idx_lt c67) rfl) (Take.cons _ _ _ _ _ Rem.p0 (Take.nil _)) ?_
 refine GoP.qN rfl (ps_indexAddr0 rfl rfl c69 rfl) ?_
 refine GoP.one1 rfl trivial (ef_store rfl rfl rfl At.p0 (upd_row1 (v := (l58.getD x59.toNat (0 : Int))) rfl) (lt_len (idx_lt c69) (by first | rfl | omega | (simp only [row_len, gridC_len, rowO_len, List.length_set] <;> first | rfl | omega))) rfl) (Take.cons _ _ _ _ _ Rem.p0 (Take.nil _)) ?_
 refine GoP.done (GoK.le ?_ (hQ))
 refine Le.ofDW ?_ (TkD.cons _ _ _ _ _ Rem.p0 (HLe.refl _) (TkD.nil _))
 repeat (first | exact EnvLeW.nil | refine EnvLeW.cons rfl ?_ | refine EnvLeW.skip rfl ?_)
 refine GoK.blk ?_
 refine GoK.code ?_
 refine GoC.region ?_
 refine GoO.pure (ps_move rfl rfl) ?_
 have c73 := ck_l H; replace H := ck_r H
 refine GoO.pure (ps_add rfl rfl rfl c73) ?_
 refine GoO.pure (ps_assign rfl rfl) ?_
 refine GoO.nil ?_
 obtain rfl := Option.some.inj H
 exact GoK.againJ m65' (by omega) ⟨_, _, hF61, rfl, rfl⟩ (EnvD.cons rfl (DLe.len (by first | rfl | omega | (simp only [row_len, gridC_len, rowO_len, List.length_set] <;> first | rfl | omega))) (EnvD.eq rfl (EnvD.eq rfl (EnvD.eq rfl (EnvD.eq rfl (EnvD.eq rfl (EnvD.nil))))))) (TkD.cons _ _ _ _ _ Rem.p0 (HLe.refl _) (TkD.nil _))
 replace H := ite_f h66 H
 refine GoC.exit rfl ?_
 obtain rfl := Option.some.inj H
 obtain rfl := Option.some.inj hF61
 exact GoK.meet ⟨_, _, rfl, rfl, rfl⟩ (EnvD.cons rfl (DLe.len (by first | rfl | omega | (simp only [row_len, gridC_len, rowO_len] <;> first | rfl | omega))) (EnvD.eq rfl (EnvD.eq rfl (EnvD.eq rfl (EnvD.eq rfl (EnvD.nil)))))) (TkD.cons _ _ _ _ _ Rem.p0 (HLe.refl _) (TkD.nil _))
 rintro v h ⟨l63, x64, rfl, rfl, rfl⟩
 have H := HK60; clear HK60
 refine GoK.blk ?_
 refine GoK.code ?_
 refine GoC.region ?_
 refine GoO.pure (ps_move rfl rfl) ?_
 have c75 := ck_l H; replace H := ck_r H
 refine GoO.pure (ps_add rfl rfl rfl c75) ?_
 refine GoO.pure (ps_assign rfl rfl) ?_
 refine GoO.nil ?_
 obtain rfl := Option.some.inj H
 exact GoK.againJ m11' (by omega) ⟨_, _, _, hF6, rfl, rfl⟩ (EnvD.cons rfl (DLe.len (by first | rfl | omega | (simp only [row_len, gridC_len, rowO_len] <;> first | rfl | omega))) (EnvD.eq rfl (EnvD.eq rfl (EnvD.eq rfl (EnvD.eq rfl (EnvD.nil)))))) (TkD.cons _ _ _ _ _ Rem.p0 (HLe.refl _) (TkD.nil _))
 replace H := ite_f h56 H
 refine GoC.skip ?_
 refine GoK.blk ?_
 refine GoK.code ?_
 refine GoC.region ?_
 refine GoO.pure (ps_move rfl rfl) ?_
 have c76 := ck_l H; replace H := ck_r H
 refine GoO.pure (ps_add rfl rfl rfl c76) ?_
 refine GoO.pure (ps_assign rfl rfl) ?_
 refine GoO.nil ?_
 obtain rfl := Option.some.inj H
 exact GoK.againJ m11' (by omega) ⟨_, _, _, hF6, rfl, rfl⟩ (EnvD.cons rfl (DLe.len (by first | rfl | omega | (simp only [row_len, gridC_len, rowO_len] <;> first | rfl | omega))) (EnvD.eq rfl (EnvD.eq rfl (EnvD.eq rfl (EnvD.eq rfl (EnvD.nil)))))) (TkD.cons _ _ _ _ _ Rem.p0 (HLe.refl _) (TkD.nil _))
 replace H := ite_f h12 H
 refine GoC.exit rfl ?_
 obtain rfl := Option.some.inj H
 obtain rfl := Option.some.inj hF6
 exact GoK.meet ⟨_, _, _, rfl, rfl, rfl⟩ (EnvD.nil) (TkD.cons _ _ _ _ _ Rem.p0 (HLe.refl _) (TkD.nil _))
 rintro v h ⟨l8, x9, n10, rfl, rfl, rfl⟩
 have H := HK5; clear HK5
 refine GoK.code ?_
 refine GoC.seq ?_
 refine GoC.region ?_
 refine GoO.pure (ps_assign rfl rfl) ?_
 refine GoO.nil ?_
 refine GoK.code ?_
 obtain rfl := Option.some.inj H
 exact GoC.retL (ds := [.v (.bool false)]) Try.results84 (ResL.cons (ResD.tmp rfl) (ResL.nil)) (Take.cons _ _ _ _ _ Rem.p0 (Take.nil _)) ⟨rfl, rfl⟩

def slices_partitionEqualOrdered_int_B2 (p1 : Int) (l5 : (List Int)) (x7 : Int) : Int → Option (Ct (Int) (Ct ((List Int) × Int × Int) (Int × (List Int)))) := fun x15 =>
 if x15 ≤ x7 then
  ck (0 ≤ p1 ∧ p1 < ((l5.length : Nat) : Int)) <|
  ck (0 ≤ x15 ∧ x15 < ((l5.length : Nat) : Int)) <|
  (cmp_Less_int_F (l5.getD p1.toNat (0 : Int)) (l5.getD x15.toNat (0 : Int))).bind fun r24 =>
  if (!r24) = true then
   ck (InI (x15 + 1)) <|
   some (.go (x15 + 1))
  else
   some (.brk x15)
 else
  some (.brk x15)
def slices_partitionEqualOrdered_int_B3 (p1 : Int) (l5 : (List Int)) (x19 : Int) : Int → Option (Ct (Int) (Ct ((List Int) × Int × Int) (Int × (List Int)))) := fun x29 =>
 if x19 ≤ x29 then
  ck (0 ≤ p1 ∧ p1 < ((l5.length : Nat) : Int)) <|
  ck (0 ≤ x29 ∧ x29 < ((l5.length : Nat) : Int)) <|
  (cmp_Less_int_F (l5.getD p1.toNat (0 : Int)) (l5.getD x29.toNat (0 : Int))).bind fun r38 =>
  if r38 = true then
   ck (InI (x29 - 1)) <|
   some (.go (x29 - 1))
  else
   some (.brk x29)
 else
  some (.brk x29)
def slices_partitionEqualOrdered_int_B1 (p1 : Int) : ((List Int) × Int × Int) → Option (Ct ((List Int) × Int × Int) (Int × (List Int))) := fun (l5, x6, x7) =>
 (loopC (slices_partitionEqualOrdered_int_B2 p1 l5 x7) 1000000 x6).bind fun q => match q with
 | .go x19 =>
  (loopC (slices_partitionEqualOrdered_int_B3 p1 l5 x19) 1000000 x7).bind fun q => match q with
  | .go x33 =>
   if x33 < x19 then
    some (.brk (l5, x19, x33))
   else
    ck (0 ≤ x33 ∧ x33 < ((l5.length : Nat) : Int)) <|
    ck (0 ≤ x19 ∧ x19 < ((l5.length : Nat) : Int)) <|
    ck (InI (x19 + 1)) <|
    ck (InI (x33 - 1)) <|
    some (.go (((l5.set x19.toNat (l5.getD x33.toNat (0 : Int))).set x33.toNat (l5.getD x19.toNat (0 : Int))), (x19 + 1), (x33 - 1)))
  | .ret x => some x
 | .ret x => some x
def slices_partitionEqualOrdered_int_F (p0 : (List Int)) (p1 : Int) (p2 : Int) (p3 : Int) : Option (Int × (List Int)) :=
 ck (0 ≤ p3 ∧ p3 < ((p0.length : Nat) : Int)) <|
 ck (0 ≤ p1 ∧ p1 < ((p0.length : Nat) : Int)) <|
 ck (InI (p1 + 1)) <|
 ck (InI (p2 - 1)) <|
 (loopC (slices_partitionEqualOrdered_int_B1 p1) 1000000 (((p0.set p1.toNat (p0.getD p3.toNat (0 : Int))).set p3.toNat (p0.getD p1.toNat (0 : Int))), (p1 + 1), (p2 - 1))).bind fun q => match q with
 | .go (l11, x12, x13) =>
  some (x12, l11)
 | .ret x => some x
def slices_partitionEqualOrdered_int_P (out : Int × (List Int)) (βp0 : BK) (d : D) (H : List HL) : Prop := d = .v (.int .i64 out.1) ∧ H = [.one βp0 3 1 (row out.2)]
theorem slices_partitionEqualOrdered_int_I (out : Int × (List Int)) (βp0 : BK) : IndepP (slices_partitionEqualOrdered_int_P out βp0) := IndepP.of (by rintro _ _ ⟨rfl, rfl⟩; exact ⟨inferInstance, inferInstance⟩)
set_option maxRecDepth 100000 in
set_option maxHeartbeats 4000000 in
theorem slices_partitionEqualOrdered_int_spec (p0 : (List Int)) (p1 : Int) (p2 : Int) (p3 : Int) (βp0 : BK) {out : Int × (List Int)} (H : slices_partitionEqualOrdered_int_F p0 p1 p2 p3 = some out) : Does Try.prog 86 [.own βp0 1 0 p0.length, .v (.int .i64 p1), .v (.int .i64 p2), .v (.int .i64 p3)] [.one βp0 3 1 (row p0)] (slices_partitionEqualOrdered_int_P out βp0) := by
 unfold slices_partitionEqualOrdered_int_F at H
 refine Does.intro Try.func86 rfl Try.ntmps86 rfl fun w0 I0 => ?_
 refine GoC.seq ?_
 refine GoC.region ?_
 refine GoO.pure (ps_assign rfl rfl) ?_
 refine GoO.nil ?_
 refine GoK.code ?_
 refine GoC.seq ?_
 refine GoC.drawP (.q 0 (.q 1 (.q 2 (.q 3 (.q 4 (.q 5 (.q 6 (.q 8 (.q 9 (.q 10 (.two 7 11 (.one 11 (.q 12 (.one 13 (.q 14 (.one 15 (.done)))))) (.one 7 (.q 12 (.one 13 (.q 14 (.one 15 (.done))))))))))))))))) [] follows (by kernel_rfl) (Take.nil _) ?_
 refine GoP.qN rfl (ps_move rfl rfl) ?_
 refine GoP.qN rfl (ps_move rfl rfl) ?_
 refine GoP.qN rfl (ps_move rfl rfl) ?_
 refine GoP.qN rfl (ps_move rfl rfl) ?_
 refine GoP.qN rfl (ps_move rfl rfl) ?_
 refine GoP.qN rfl (ps_move rfl rfl) ?_
 have c1 := ck_l H; replace H := ck_r H
 refine GoP.qN rfl (ps_indexAddr0 rfl rfl c1 rfl) ?_
 refine GoP.qN rfl (ps_move rfl rfl) ?_
 refine GoP.qN rfl (ps_move rfl rfl) ?_
 have c2 := ck_l H; replace H := ck_r H
 refine GoP.qN rfl (ps_indexAddr0 rfl rfl c2 rfl) ?_
 apply GoP.fork0
 exact rfl
 exact rfl
 exact trivial
 exact trivial
 exact Eff.pure (H1 := [.one βp0 3 1 (row p0)]) (ps_load rfl At.p0 At.p0 (idx_lt c1) rfl rfl)
 exact Eff.pure (H1 := [.one βp0 3 1 (row p0)]) (ps_load rfl At.p0 At.p0 (idx_lt c2) rfl rfl)
 exact (Take.nil _)
 exact (Take.nil _)
 intro hQ
 rintro _ rfl
 refine GoP.oneN rfl (ps_load rfl At.p0 At.p0 (idx_lt c2) rfl rfl) (Take.nil _) ?_
 refine GoP.qN rfl (ps_indexAddr0 rfl rfl c2 rfl) ?_
 refine GoP.one1 rfl trivial (ef_store rfl rfl rfl At.p0 (upd_row1 (v := (p0.getD p3.toNat (0 : Int))) rfl) (idx_lt c2) rfl) (Take.cons _ _ _ _ _ Rem.p0 (Take.nil _)) ?_
 refine GoP.qN rfl (ps_indexAddr0 rfl rfl c1 rfl) ?_
 refine GoP.one1 rfl trivial (ef_store rfl rfl rfl At.p0 (upd_row1 (v := (p0.getD p1.toNat (0 : Int))) rfl) (lt_len (idx_lt c1) (by first | rfl | omega | (simp only [row_len, gridC_len, rowO_len, List.length_set] <;> first | rfl | omega))) rfl) (Take.cons _ _ _ _ _ Rem.p0 (Take.nil _)) ?_
 exact GoP.done (hQ)
 intro hQ
 rintro _ rfl
 refine GoP.oneN rfl (ps_load rfl At.p0 At.p0 (idx_lt c1) rfl rfl) (Take.nil _) ?_
 refine GoP.qN rfl (ps_indexAddr0 rfl rfl c2 rfl) ?_
 refine GoP.one1 rfl trivial (ef_store rfl rfl rfl At.p0 (upd_row1 (v := (p0.getD p3.toNat (0 : Int))) rfl) (idx_lt c2) rfl) (Take.cons _ _ _ _ _ Rem.p0 (Take.nil _)) ?_
 refine GoP.qN rfl (ps_indexAddr0 rfl rfl c1 rfl) ?_
 refine GoP.one1 rfl trivial (ef_store rfl rfl rfl At.p0 (upd_row1 (v := (p0.getD p1.toNat (0 : Int))) rfl) (lt_len (idx_lt c1) (by first | rfl | omega | (simp only [row_len, gridC_len, rowO_len, List.length_set] <;> first | rfl | omega))) rfl) (Take.cons _ _ _ _ _ Rem.p0 (Take.nil _)) ?_
 refine GoP.done (GoK.le ?_ (hQ))
 refine Le.ofDW ?_ (TkD.cons _ _ _ _ _ Rem.p0 (HLe.refl _) (TkD.nil _))
 repeat (first | exact EnvLeW.nil | refine EnvLeW.cons rfl ?_ | refine EnvLeW.skip rfl ?_)
 refine GoK.code ?_
 refine GoC.seq ?_
 refine GoC.region ?_
 refine GoO.pure (ps_move rfl rfl) ?_
 have c3 := ck_l H; replace H := ck_r H
 refine GoO.pure (ps_add rfl rfl rfl c3) ?_
 refine GoO.pure (ps_move rfl rfl) ?_
 have c4 := ck_l H; replace H := ck_r H
 refine GoO.pure (ps_sub rfl rfl rfl c4) ?_
 refine GoO.pure (ps_assign rfl rfl) ?_
 refine GoO.pure (ps_assign rfl rfl) ?_
 refine GoO.nil ?_
 refine GoK.code ?_
 refine GoC.seq ?_
 have hb := bind_l H; clear H
 obtain ⟨q10, hl48, HK8⟩ := hb
 refine GoC.blockJ [] [] (fun v h => ∃ (l11 : (List Int)) (x12 : Int) (x13 : Int), q10 = .go (l11, x12, x13) ∧ v = [(9, .v (.int .i64 x12))] ∧ h = [.one βp0 3 1 (row l11)]) ?_ ?_
 refine GoC.loopJ [(1, _)] [] (fun mQ v h => ∃ (l5 : (List Int)) (x6 : Int) (x7 : Int), loopC (slices_partitionEqualOrdered_int_B1 p1) mQ (l5, x6, x7) = some q10 ∧ v = [(0, .own βp0 1 0 l5.length), (9, .v (.int .i64 x6)), (10, .v (.int .i64 x7))] ∧ h = [.one βp0 3 1 (row l5)]) 1000000 ⟨_, _, _, hl48, rfl, rfl⟩ (EnvD.cons rfl (DLe.len (by first | rfl | omega | (simp only [row_len, gridC_len, rowO_len, List.length_set] <;> first | rfl | omega))) (EnvD.eq rfl (EnvD.eq rfl (EnvD.eq rfl (EnvD.nil))))) (TkD.cons _ _ _ _ _ Rem.p0 (HLe.refl _) (TkD.nil _)) ?_
 rintro m14 v h ⟨l5, x6, x7, hF9, rfl, rfl⟩
 obtain ⟨m14', rfl⟩ | rfl : (∃ x, m14 = x + 1) ∨ m14 = 0 := by cases m14 <;> simp
 case inr => cases hF9
 have hb := bind_l hF9; clear hF9
 obtain ⟨qrm14, H, hF9⟩ := hb
 refine GoC.block ?_
 refine GoC.seq ?_
 have hb := bind_l H; clear H
 obtain ⟨q18, hl28, HK16⟩ := hb
 refine GoC.blockJ [(0, .own βp0 1 0 l5.length), (1, .v (.int .i64 p1)), (10, .v (.int .i64 x7))] [.one βp0 3 1 (row l5)] (fun v h => ∃ (x19 : Int), q18 = .go x19 ∧ v = [(9, .v (.int .i64 x19))] ∧ h = []) ?_ ?_
 refine GoC.loopJ [(0, _), (1, _), (10, _)] [.one βp0 3 1 (row l5)] (fun mQ v h => ∃ (x15 : Int), loopC (slices_partitionEqualOrdered_int_B2 p1 l5 x7) mQ x15 = some q18 ∧ v = [(9, .v (.int .i64 x15))] ∧ h = []) 1000000 ⟨_, hl28, rfl, rfl⟩ (EnvD.eq rfl (EnvD.eq rfl (EnvD.eq rfl (EnvD.eq rfl (EnvD.nil))))) (TkD.cons _ _ _ _ _ Rem.p0 (HLe.refl _) (TkD.nil _)) ?_
 rintro m20 v h ⟨x15, hF17, rfl, rfl⟩
 obtain ⟨m20', rfl⟩ | rfl : (∃ x, m20 = x + 1) ∨ m20 = 0 := by cases m20 <;> simp
 case inr => cases hF17
 have hb := bind_l hF17; clear hF17
 obtain ⟨qrm20, H, hF17⟩ := hb
 refine GoC.seq ?_
 refine GoC.seq ?_
 refine GoC.drawA (.q 0 (.q 1 (.q 2 (.q 3 (.q 4 (.q 5 (.q 6 (.q 7 (.q 8 (.q 9 (.q 10 (.q 11 (.one 12 (.q 13 (.q 14 (.done)))))))))))))))) follows (by kernel_rfl) ?_
 refine GoP.qN rfl (ps_move rfl rfl) ?_
 refine GoP.qN rfl (ps_move rfl rfl) ?_
 refine GoP.qN rfl (ps_leq rfl rfl rfl) ?_
 refine GoP.qN rfl (ps_move rfl rfl) ?_
 refine GoP.decideD 32 rfl (fun h21 => ?_) (fun h21 => ?_)
 replace H := ite_t h21 H
 refine GoP.qT rfl rfl rfl rfl (ps_move rfl rfl) ?_
 refine GoP.qT rfl rfl rfl rfl (ps_move rfl rfl) ?_
 have c22 := ck_l H; replace H := ck_r H
 refine GoP.qT rfl rfl rfl rfl (ps_indexAddr0 rfl rfl c22 rfl) ?_
 refine GoP.qT rfl rfl rfl rfl (ps_load rfl At.p0 At.p0 (idx_lt c22) rfl rfl) ?_
 refine GoP.qT rfl rfl rfl rfl (ps_move rfl rfl) ?_
 refine GoP.qT rfl rfl rfl rfl (ps_move rfl rfl) ?_
 have c23 := ck_l H; replace H := ck_r H
 refine GoP.qT rfl rfl rfl rfl (ps_indexAddr0 rfl rfl c23 rfl) ?_
 refine GoP.qT rfl rfl rfl rfl (ps_load rfl At.p0 At.p0 (idx_lt c23) rfl rfl) ?_
 have hb := bind_l H; clear H
 obtain ⟨r24, e25, H⟩ := hb
 refine GoP.oneC rfl ⟨_, rfl, rfl, rfl⟩ (ef_call rfl (Take.nil _) (Take.nil _) (cmp_Less_int_spec (l5.getD p1.toNat (0 : Int)) (l5.getD x15.toNat (0 : Int)) e25) (LendL.cons (Lend.refl _ _) (LendL.cons (Lend.refl _ _) (LendL.nil))) rfl (cmp_Less_int_I (r24))) (Take.cons _ _ _ _ _ Rem.p0 (Take.nil _)) (fun rr HH hp => ?_)
 obtain ⟨rfl, rfl⟩ := hp
 refine GoP.qT rfl rfl rfl rfl (ps_not rfl rfl) ?_
 refine GoP.qN rfl (ps_pickT rfl rfl rfl) ?_
 refine GoP.done ?_
 refine GoK.code ?_
 refine GoC.cond rfl (fun h26 => ?_) (fun h26 => ?_)
 replace H := itb_t h26 H
 refine GoC.skip ?_
 refine GoK.code ?_
 refine GoC.block ?_
 refine GoC.region ?_
 refine GoO.pure (ps_move rfl rfl) ?_
 have c27 := ck_l H; replace H := ck_r H
 refine GoO.pure (ps_add rfl rfl rfl c27) ?_
 refine GoO.pure (ps_assign rfl rfl) ?_
 refine GoO.nil ?_
 refine GoK.blk ?_
 obtain rfl := Option.some.inj H
 exact GoK.againJ m20' (by omega) ⟨_, hF17, rfl, rfl⟩ (EnvD.eq rfl (EnvD.eq rfl (EnvD.eq rfl (EnvD.eq rfl (EnvD.nil))))) (TkD.cons _ _ _ _ _ Rem.p0 (HLe.refl _) (TkD.nil _))
 replace H := itb_f h26 H
 refine GoC.exit rfl ?_
 obtain rfl := Option.some.inj H
 obtain rfl := Option.some.inj hF17
 exact GoK.meet ⟨_, rfl, rfl, rfl⟩ (EnvD.eq rfl (EnvD.eq rfl (EnvD.eq rfl (EnvD.eq rfl (EnvD.nil))))) (TkD.cons _ _ _ _ _ Rem.p0 (HLe.refl _) (TkD.nil _))
 replace H := ite_f h21 H
 refine GoP.qF rfl rfl rfl rfl rfl ?_
 refine GoP.qF rfl rfl rfl rfl rfl ?_
 refine GoP.qF rfl rfl rfl rfl rfl ?_
 refine GoP.qF rfl rfl rfl rfl rfl ?_
 refine GoP.qF rfl rfl rfl rfl rfl ?_
 refine GoP.qF rfl rfl rfl rfl rfl ?_
 refine GoP.qF rfl rfl rfl rfl rfl ?_
 refine GoP.qF rfl rfl rfl rfl rfl ?_
 refine GoP.oneF rfl rfl rfl rfl rfl ?_
 refine GoP.qF rfl rfl rfl rfl rfl ?_
 refine GoP.qN rfl (ps_pickF rfl rfl rfl) ?_
 refine GoP.done ?_
 refine GoK.code ?_
 refine GoC.condF rfl ?_
 refine GoC.exit rfl ?_
 obtain rfl := Option.some.inj H
 obtain rfl := Option.some.inj hF17
 exact GoK.meet ⟨_, rfl, rfl, rfl⟩ (EnvD.eq rfl (EnvD.eq rfl (EnvD.eq rfl (EnvD.eq rfl (EnvD.nil))))) (TkD.cons _ _ _ _ _ Rem.p0 (HLe.refl _) (TkD.nil _))
 rintro v h ⟨x19, rfl, rfl, rfl⟩
 have H := HK16; clear HK16
 refine GoK.code ?_
 refine GoC.seq ?_
 have hb := bind_l H; clear H
 obtain ⟨q32, hl42, HK30⟩ := hb
 refine GoC.blockJ [(0, .own βp0 1 0 l5.length), (1, .v (.int .i64 p1)), (9, .v (.int .i64 x19))] [.one βp0 3 1 (row l5)] (fun v h => ∃ (x33 : Int), q32 = .go x33 ∧ v = [(10, .v (.int .i64 x33))] ∧ h = []) ?_ ?_
 refine GoC.loopJ [(0, _), (1, _), (9, _)] [.one βp0 3 1 (row l5)] (fun mQ v h => ∃ (x29 : Int), loopC (slices_partitionEqualOrdered_int_B3 p1 l5 x19) mQ x29 = some q32 ∧ v = [(10, .v (.int .i64 x29))] ∧ h = []) 1000000 ⟨_, hl42, rfl, rfl⟩ (EnvD.eq rfl (EnvD.eq rfl (EnvD.eq rfl (EnvD.eq rfl (EnvD.nil))))) (TkD.cons _ _ _ _ _ Rem.p0 (HLe.refl _) (TkD.nil _)) ?_
 rintro m34 v h ⟨x29, hF31, rfl, rfl⟩
 obtain ⟨m34', rfl⟩ | rfl : (∃ x, m34 = x + 1) ∨ m34 = 0 := by cases m34 <;> simp
 case inr => cases hF31
 have hb := bind_l hF31; clear hF31
 obtain ⟨qrm34, H, hF31⟩ := hb
 refine GoC.seq ?_
 refine GoC.seq ?_
 refine GoC.drawA (.q 0 (.q 1 (.q 2 (.q 3 (.q 4 (.q 5 (.q 6 (.q 7 (.q 8 (.q 9 (.q 10 (.q 11 (.one 12 (.q 13 (.done))))))))))))))) follows (by kernel_rfl) ?_
 refine GoP.qN rfl (ps_move rfl rfl) ?_
 refine GoP.qN rfl (ps_move rfl rfl) ?_
 refine GoP.qN rfl (ps_leq rfl rfl rfl) ?_
 refine GoP.qN rfl (ps_move rfl rfl) ?_
 refine GoP.decideD 49 rfl (fun h35 => ?_) (fun h35 => ?_)
 replace H := ite_t h35 H
 refine GoP.qT rfl rfl rfl rfl (ps_move rfl rfl) ?_
 refine GoP.qT rfl rfl rfl rfl (ps_move rfl rfl) ?_
 have c36 := ck_l H; replace H := ck_r H
 refine GoP.qT rfl rfl rfl rfl (ps_indexAddr0 rfl rfl c36 rfl) ?_
 refine GoP.qT rfl rfl rfl rfl (ps_load rfl At.p0 At.p0 (idx_lt c36) rfl rfl) ?_
 refine GoP.qT rfl rfl rfl rfl (ps_move rfl rfl) ?_
 refine GoP.qT rfl rfl rfl rfl (ps_move rfl rfl) ?_
 have c37 := ck_l H; replace H := ck_r H
 refine GoP.qT rfl rfl rfl rfl (ps_indexAddr0 rfl rfl c37 rfl) ?_
 refine GoP.qT rfl rfl rfl rfl (ps_load rfl At.p0 At.p0 (idx_lt c37) rfl rfl) ?_
 have hb := bind_l H; clear H
 obtain ⟨r38, e39, H⟩ := hb
 refine GoP.oneC rfl ⟨_, rfl, rfl, rfl⟩ (ef_call rfl (Take.nil _) (Take.nil _) (cmp_Less_int_spec (l5.getD p1.toNat (0 : Int)) (l5.getD x29.toNat (0 : Int)) e39) (LendL.cons (Lend.refl _ _) (LendL.cons (Lend.refl _ _) (LendL.nil))) rfl (cmp_Less_int_I (r38))) (Take.cons _ _ _ _ _ Rem.p0 (Take.nil _)) (fun rr HH hp => ?_)
 obtain ⟨rfl, rfl⟩ := hp
 refine GoP.qN rfl (ps_pickT rfl rfl rfl) ?_
 refine GoP.done ?_
 refine GoK.code ?_
 refine GoC.cond rfl (fun h40 => ?_) (fun h40 => ?_)
 replace H := itb_t h40 H
 refine GoC.skip ?_
 refine GoK.code ?_
 refine GoC.block ?_
 refine GoC.region ?_
 refine GoO.pure (ps_move rfl rfl) ?_
 have c41 := ck_l H; replace H := ck_r H
 refine GoO.pure (ps_sub rfl rfl rfl c41) ?_
 refine GoO.pure (ps_assign rfl rfl) ?_
 refine GoO.nil ?_
 refine GoK.blk ?_
 obtain rfl := Option.some.inj H
 exact GoK.againJ m34' (by omega) ⟨_, hF31, rfl, rfl⟩ (EnvD.eq rfl (EnvD.eq rfl (EnvD.eq rfl (EnvD.eq rfl (EnvD.nil))))) (TkD.cons _ _ _ _ _ Rem.p0 (HLe.refl _) (TkD.nil _))
 replace H := itb_f h40 H
 refine GoC.exit rfl ?_
 obtain rfl := Option.some.inj H
 obtain rfl := Option.some.inj hF31
 exact GoK.meet ⟨_, rfl, rfl, rfl⟩ (EnvD.eq rfl (EnvD.eq rfl (EnvD.eq rfl (EnvD.eq rfl (EnvD.nil))))) (TkD.cons _ _ _ _ _ Rem.p0 (HLe.refl _) (TkD.nil _))
 replace H := ite_f h35 H
 refine GoP.qF rfl rfl rfl rfl rfl ?_
 refine GoP.qF rfl rfl rfl rfl rfl ?_
 refine GoP.qF rfl rfl rfl rfl rfl ?_
 refine GoP.qF rfl rfl rfl rfl rfl ?_
 refine GoP.qF rfl rfl rfl rfl rfl ?_
 refine GoP.qF rfl rfl rfl rfl rfl ?_
 refine GoP.qF rfl rfl rfl rfl rfl ?_
 refine GoP.qF rfl rfl rfl rfl rfl ?_
 refine GoP.oneF rfl rfl rfl rfl rfl ?_
 refine GoP.qN rfl (ps_pickF rfl rfl rfl) ?_
 refine GoP.done ?_
 refine GoK.code ?_
 refine GoC.condF rfl ?_
 refine GoC.exit rfl ?_
 obtain rfl := Option.some.inj H
 obtain rfl := Option.some.inj hF31
 exact GoK.meet ⟨_, rfl, rfl, rfl⟩ (EnvD.eq rfl (EnvD.eq rfl (EnvD.eq rfl (EnvD.eq rfl (EnvD.nil))))) (TkD.cons _ _ _ _ _ Rem.p0 (HLe.refl _) (TkD.nil _))
 rintro v h ⟨x33, rfl, rfl, rfl⟩
 have H := HK30; clear HK30
 refine GoK.code ?_
 refine GoC.seq ?_
 refine GoC.seq ?_
 refine GoC.region ?_
 refine GoO.pure (ps_move rfl rfl) ?_
 refine GoO.pure (ps_move rfl rfl) ?_
 refine GoO.pure (ps_gtr rfl rfl rfl) ?_
 refine GoO.nil ?_
 refine GoK.code ?_
 refine GoC.condD rfl (fun h43 => ?_) (fun h43 => ?_)
 replace H := ite_t h43 H
 refine GoC.exit rfl ?_
 obtain rfl := Option.some.inj H
 obtain rfl := Option.some.inj hF9
 exact GoK.meet ⟨_, _, _, rfl, rfl, rfl⟩ (EnvD.eq rfl (EnvD.nil)) (TkD.cons _ _ _ _ _ Rem.p0 (HLe.refl _) (TkD.nil _))
 replace H := ite_f h43 H
 refine GoC.skip ?_
 refine GoK.code ?_
 refine GoC.seq ?_
 refine GoC.drawP (.q 0 (.q 1 (.q 2 (.q 3 (.q 4 (.q 5 (.q 6 (.q 8 (.q 9 (.q 10 (.two 7 11 (.one 11 (.q 12 (.one 13 (.q 14 (.one 15 (.done)))))) (.one 7 (.q 12 (.one 13 (.q 14 (.one 15 (.done))))))))))))))))) [] follows (by kernel_rfl) (Take.nil _) ?_
 refine GoP.qN rfl (ps_move rfl rfl) ?_
 refine GoP.qN rfl (ps_move rfl rfl) ?_
 refine GoP.qN rfl (ps_move rfl rfl) ?_
 refine GoP.qN rfl (ps_move rfl rfl) ?_
 refine GoP.qN rfl (ps_move rfl rfl) ?_
 refine GoP.qN rfl (ps_move rfl rfl) ?_
 have c44 := ck_l H; replace H := ck_r H
 refine GoP.qN rfl (ps_indexAddr0 rfl rfl c44 rfl) ?_
 refine GoP.qN rfl (ps_move rfl rfl) ?_
 refine GoP.qN rfl (ps_move rfl rfl) ?_
 have c45 := ck_l H; replace H := ck_r H
 refine GoP.qN rfl (ps_indexAddr0 rfl rfl c45 rfl) ?_
 apply GoP.fork0
 exact rfl
 exact rfl
 exact trivial
 exact trivial
 exact Eff.pure (H1 := [.one βp0 3 1 (row l5)]) (ps_load rfl At.p0 At.p0 (idx_lt c44) rfl rfl)
 exact Eff.pure (H1 := [.one βp0 3 1 (row l5)]) (ps_load rfl At.p0 At.p0 (idx_lt c45) rfl rfl)
 exact (Take.nil _)
 exact (Take.nil _)
 intro hQ
 rintro _ rfl
 refine GoP.oneN rfl (ps_load rfl At.p0 At.p0 (idx_lt c45) rfl rfl) (Take.nil _) ?_
 refine GoP.qN rfl (ps_indexAddr0 rfl rfl c45 rfl) ?_
 refine GoP.one1 rfl trivial (ef_store rfl rfl rfl At.p0 (upd_row1 (v := (l5.getD x33.toNat (0 : Int))) rfl) (idx_lt c45) rfl) (Take.cons _ _ _ _ _ Rem.p0 (Take.nil _)) ?_
 refine GoP.qN rfl (ps_indexAddr0 rfl rfl c44 rfl) ?_
 refine GoP.one1 rfl trivial (ef_store rfl rfl rfl At.p0 (upd_row1 (v := (l5.getD x19.toNat (0 : Int))) rfl) (lt_len (idx_lt c44) (by first | rfl | omega | (simp only [row_len, gridC_len, rowO_len, List.length_set] <;> first | rfl | omega))) rfl) (Take.cons _ _ _ _ _ Rem.p0 (Take.nil _)) ?_
 exact GoP.done (hQ)
 intro hQ
 rintro _ rfl
 refine GoP.oneN rfl (ps_load rfl At.p0 At.p0 (idx_lt c44) rfl rfl) (Take.nil _) ?_
 refine GoP.qN rfl (ps_indexAddr0 rfl rfl c45 rfl) ?_
 refine GoP.one1 rfl trivial (ef_store rfl rfl rfl At.p0 (upd_row1 (v := (l5.getD x33.toNat (0 : Int))) rfl) (idx_lt c45) rfl) (Take.cons _ _ _ _ _ Rem.p0 (Take.nil _)) ?_
 refine GoP.qN rfl (ps_indexAddr0 rfl rfl c44 rfl) ?_
 refine GoP.one1 rfl trivial (ef_store rfl rfl rfl At.p0 (upd_row1 (v := (l5.getD x19.toNat (0 : Int))) rfl) (lt_len (idx_lt c44) (by first | rfl | omega | (simp only [row_len, gridC_len, rowO_len, List.length_set] <;> first | rfl | omega))) rfl) (Take.cons _ _ _ _ _ Rem.p0 (Take.nil _)) ?_
 refine GoP.done (GoK.le ?_ (hQ))
 refine Le.ofDW ?_ (TkD.cons _ _ _ _ _ Rem.p0 (HLe.refl _) (TkD.nil _))
 repeat (first | exact EnvLeW.nil | refine EnvLeW.cons rfl ?_ | refine EnvLeW.skip rfl ?_)
 refine GoK.code ?_
 refine GoC.seq ?_
 refine GoC.region ?_
 refine GoO.pure (ps_move rfl rfl) ?_
 have c46 := ck_l H; replace H := ck_r H
 refine GoO.pure (ps_add rfl rfl rfl c46) ?_
 refine GoO.pure (ps_assign rfl rfl) ?_
 refine GoO.nil ?_
 refine GoK.code ?_
 refine GoC.region ?_
 refine GoO.pure (ps_move rfl rfl) ?_
 have c47 := ck_l H; replace H := ck_r H
 refine GoO.pure (ps_sub rfl rfl rfl c47) ?_
 refine GoO.pure (ps_assign rfl rfl) ?_
 refine GoO.nil ?_
 refine GoK.blk ?_
 obtain rfl := Option.some.inj H
 exact GoK.againJ m14' (by omega) ⟨_, _, _, hF9, rfl, rfl⟩ (EnvD.cons rfl (DLe.len (by first | rfl | omega | (simp only [row_len, gridC_len, rowO_len, List.length_set] <;> first | rfl | omega))) (EnvD.eq rfl (EnvD.eq rfl (EnvD.eq rfl (EnvD.nil))))) (TkD.cons _ _ _ _ _ Rem.p0 (HLe.refl _) (TkD.nil _))
 rintro v h ⟨l11, x12, x13, rfl, rfl, rfl⟩
 have H := HK8; clear HK8
 refine GoK.code ?_
 refine GoC.seq ?_
 refine GoC.region ?_
 refine GoO.pure (ps_move rfl rfl) ?_
 refine GoO.pure (ps_assign rfl rfl) ?_
 refine GoO.nil ?_
 refine GoK.code ?_
 obtain rfl := Option.some.inj H
 exact GoC.retL (ds := [.v (.int .i64 x12)]) Try.results86 (ResL.cons (ResD.tmp rfl) (ResL.nil)) (Take.cons _ _ _ _ _ Rem.p0 (Take.nil _)) ⟨rfl, rfl⟩

def slices_partitionOrdered_int_B1 (p0 : (List Int)) (p1 : Int) (p2 : Int) (p3 : Int) : Int → Option (Ct (Int) (Int × Bool × (List Int))) := fun x5 =>
 if x5 ≤ (p2 - 1) then
  ck (0 ≤ x5 ∧ x5 < ((p0.length : Nat) : Int)) <|
  (cmp_Less_int_F (((p0.set p1.toNat (p0.getD p3.toNat (0 : Int))).set p3.toNat (p0.getD p1.toNat (0 : Int))).getD x5.toNat (0 : Int)) (((p0.set p1.toNat (p0.getD p3.toNat (0 : Int))).set p3.toNat (p0.getD p1.toNat (0 : Int))).getD p1.toNat (0 : Int))).bind fun r13 =>
  if r13 = true then
   ck (InI (x5 + 1)) <|
   some (.go (x5 + 1))
  else
   some (.brk x5)
 else
  some (.brk x5)
def slices_partitionOrdered_int_B2 (p0 : (List Int)) (p1 : Int) (p3 : Int) (x9 : Int) : Int → Option (Ct (Int) (Int × Bool × (List Int))) := fun x18 =>
 if x9 ≤ x18 then
  ck (0 ≤ x18 ∧ x18 < ((p0.length : Nat) : Int)) <|
  (cmp_Less_int_F (((p0.set p1.toNat (p0.getD p3.toNat (0 : Int))).set p3.toNat (p0.getD p1.toNat (0 : Int))).getD x18.toNat (0 : Int)) (((p0.set p1.toNat (p0.getD p3.toNat (0 : Int))).set p3.toNat (p0.getD p1.toNat (0 : Int))).getD p1.toNat (0 : Int))).bind fun r26 =>
  if (!r26) = true then
   ck (InI (x18 - 1)) <|
   some (.go (x18 - 1))
  else
   some (.brk x18)
 else
  some (.brk x18)
def slices_partitionOrdered_int_B4 (p1 : Int) (l37 : (List Int)) (x39 : Int) : Int → Option (Ct (Int) (Ct ((List Int) × Int × Int) (Int × Bool × (List Int)))) := fun x47 =>
 if x47 ≤ x39 then
  ck (0 ≤ x47 ∧ x47 < ((l37.length : Nat) : Int)) <|
  ck (0 ≤ p1 ∧ p1 < ((l37.length : Nat) : Int)) <|
  (cmp_Less_int_F (l37.getD x47.toNat (0 : Int)) (l37.getD p1.toNat (0 : Int))).bind fun r56 =>
  if r56 = true then
   ck (InI (x47 + 1)) <|
   some (.go (x47 + 1))
  else
   some (.brk x47)
 else
  some (.brk x47)
def slices_partitionOrdered_int_B5 (p1 : Int) (l37 : (List Int)) (x51 : Int) : Int → Option (Ct (Int) (Ct ((List Int) × Int × Int) (Int × Bool × (List Int)))) := fun x61 =>
 if x51 ≤ x61 then
  ck (0 ≤ x61 ∧ x61 < ((l37.length : Nat) : Int)) <|
  ck (0 ≤ p1 ∧ p1 < ((l37.length : Nat) : Int)) <|
  (cmp_Less_int_F (l37.getD x61.toNat (0 : Int)) (l37.getD p1.toNat (0 : Int))).bind fun r70 =>
  if (!r70) = true then
   ck (InI (x61 - 1)) <|
   some (.go (x61 - 1))
  else
   some (.brk x61)
 else
  some (.brk x61)
def slices_partitionOrdered_int_B3 (p1 : Int) : ((List Int) × Int × Int) → Option (Ct ((List Int) × Int × Int) (Int × Bool × (List Int))) := fun (l37, x38, x39) =>
 (loopC (slices_partitionOrdered_int_B4 p1 l37 x39) 1000000 x38).bind fun q => match q with
 | .go x51 =>
  (loopC (slices_partitionOrdered_int_B5 p1 l37 x51) 1000000 x39).bind fun q => match q with
  | .go x65 =>
   if x65 < x51 then
    some (.brk (l37, x51, x65))
   else
    ck (0 ≤ x65 ∧ x65 < ((l37.length : Nat) : Int)) <|
    ck (0 ≤ x51 ∧ x51 < ((l37.length : Nat) : Int)) <|
    ck (InI (x51 + 1)) <|
    ck (InI (x65 - 1)) <|
    some (.go (((l37.set x51.toNat (l37.getD x65.toNat (0 : Int))).set x65.toNat (l37.getD x51.toNat (0 : Int))), (x51 + 1), (x65 - 1)))
  | .ret x => some x
 | .ret x => some x
def slices_partitionOrdered_int_F (p0 : (List Int)) (p1 : Int) (p2 : Int) (p3 : Int) : Option (Int × Bool × (List Int)) :=
 ck (0 ≤ p3 ∧ p3 < ((p0.length : Nat) : Int)) <|
 ck (0 ≤ p1 ∧ p1 < ((p0.length : Nat) : Int)) <|
 ck (InI (p1 + 1)) <|
 ck (InI (p2 - 1)) <|
 (loopC (slices_partitionOrdered_int_B1 p0 p1 p2 p3) 1000000 (p1 + 1)).bind fun q => match q with
 | .go x9 =>
  (loopC (slices_partitionOrdered_int_B2 p0 p1 p3 x9) 1000000 (p2 - 1)).bind fun q => match q with
  | .go x22 =>
   if x22 < x9 then
    ck (0 ≤ x22 ∧ x22 < ((p0.length : Nat) : Int)) <|
    some (x22, true, ((((p0.set p1.toNat (p0.getD p3.toNat (0 : Int))).set p3.toNat (p0.getD p1.toNat (0 : Int))).set x22.toNat (((p0.set p1.toNat (p0.getD p3.toNat (0 : Int))).set p3.toNat (p0.getD p1.toNat (0 : Int))).getD p1.toNat (0 : Int))).set p1.toNat (((p0.set p1.toNat (p0.getD p3.toNat (0 : Int))).set p3.toNat (p0.getD p1.toNat (0 : Int))).getD x22.toNat (0 : Int))))
   else
    ck (0 ≤ x22 ∧ x22 < ((p0.length : Nat) : Int)) <|
    ck (0 ≤ x9 ∧ x9 < ((p0.length : Nat) : Int)) <|
    ck (InI (x9 + 1)) <|
    ck (InI (x22 - 1)) <|
    (loopC (slices_partitionOrdered_int_B3 p1) 1000000 (((((p0.set p1.toNat (p0.getD p3.toNat (0 : Int))).set p3.toNat (p0.getD p1.toNat (0 : Int))).set x9.toNat (((p0.set p1.toNat (p0.getD p3.toNat (0 : Int))).set p3.toNat (p0.getD p1.toNat (0 : Int))).getD x22.toNat (0 : Int))).set x22.toNat (((p0.set p1.toNat (p0.getD p3.toNat (0 : Int))).set p3.toNat (p0.getD p1.toNat (0 : Int))).getD x9.toNat (0 : Int))), (x9 + 1), (x22 - 1))).bind fun q => match q with
    | .go (l43, x44, x45) =>
     ck (0 ≤ p1 ∧ p1 < ((l43.length : Nat) : Int)) <|
     ck (0 ≤ x45 ∧ x45 < ((l43.length : Nat) : Int)) <|
     some (x45, false, ((l43.set x45.toNat (l43.getD p1.toNat (0 : Int))).set p1.toNat (l43.getD x45.toNat (0 : Int))))
    | .ret x => some x
  | .ret x => some x
 | .ret x => some x
def slices_partitionOrdered_int_P (out : Int × Bool × (List Int)) (βp0 : BK) (d : D) (H : List HL) : Prop := d = .tp 2 (nth [.v (.int .i64 out.1), .v (.bool out.2.1)]) ∧ H = [.one βp0 3 1 (row out.2.2)]
theorem slices_partitionOrdered_int_I (out : Int × Bool × (List Int)) (βp0 : BK) : IndepP (slices_partitionOrdered_int_P out βp0) := IndepP.of (by rintro _ _ ⟨rfl, rfl⟩; exact ⟨inferInstance, inferInstance⟩)
set_option maxRecDepth 100000 in
set_option maxHeartbeats 4000000 in
theorem slices_partitionOrdered_int_spec (p0 : (List Int)) (p1 : Int) (p2 : Int) (p3 : Int) (βp0 : BK) {out : Int × Bool × (List Int)} (H : slices_partitionOrdered_int_F p0 p1 p2 p3 = some out) : Does Try.prog 87 [.own βp0 1 0 p0.length, .v (.int .i64 p1), .v (.int .i64 p2), .v (.int .i64 p3)] [.one βp0 3 1 (row p0)] (slices_partitionOrdered_int_P out βp0) := by
 unfold slices_partitionOrdered_int_F at H
 refine Does.intro Try.func87 rfl Try.ntmps87 rfl fun w0 I0 => ?_
 refine GoC.seq ?_
 refine GoC.region ?_
 refine GoO.pure (ps_assign rfl rfl) ?_
 refine GoO.pure (ps_assign rfl rfl) ?_
 refine GoO.nil ?_
 refine GoK.code ?_
 refine GoC.seq ?_
 refine GoC.drawP (.q 0 (.q 1 (.q 2 (.q 3 (.q 4 (.q 5 (.q 6 (.q 8 (.q 9 (.q 10 (.two 7 11 (.one 11 (.q 12 (.one 13 (.q 14 (.one 15 (.done)))))) (.one 7 (.q 12 (.one 13 (.q 14 (.one 15 (.done))))))))))))))))) [] follows (by kernel_rfl) (Take.nil _) ?_
 refine GoP.qN rfl (ps_move rfl rfl) ?_
 refine GoP.qN rfl (ps_move rfl rfl) ?_
 refine GoP.qN rfl (ps_move rfl rfl) ?_
 refine GoP.qN rfl (ps_move rfl rfl) ?_
 refine GoP.qN rfl (ps_move rfl rfl) ?_
 refine GoP.qN rfl (ps_move rfl rfl) ?_
 have c1 := ck_l H; replace H := ck_r H
 refine GoP.qN rfl (ps_indexAddr0 rfl rfl c1 rfl) ?_
 refine GoP.qN rfl (ps_move rfl rfl) ?_
 refine GoP.qN rfl (ps_move rfl rfl) ?_
 have c2 := ck_l H; replace H := ck_r H
 refine GoP.qN rfl (ps_indexAddr0 rfl rfl c2 rfl) ?_
 apply GoP.fork0
 exact rfl
 exact rfl
 exact trivial
 exact trivial
 exact Eff.pure (H1 := [.one βp0 3 1 (row p0)]) (ps_load rfl At.p0 At.p0 (idx_lt c1) rfl rfl)
 exact Eff.pure (H1 := [.one βp0 3 1 (row p0)]) (ps_load rfl At.p0 At.p0 (idx_lt c2) rfl rfl)
 exact (Take.nil _)
 exact (Take.nil _)
 intro hQ
 rintro _ rfl
 refine GoP.oneN rfl (ps_load rfl At.p0 At.p0 (idx_lt c2) rfl rfl) (Take.nil _) ?_
 refine GoP.qN rfl (ps_indexAddr0 rfl rfl c2 rfl) ?_
 refine GoP.one1 rfl trivial (ef_store rfl rfl rfl At.p0 (upd_row1 (v := (p0.getD p3.toNat (0 : Int))) rfl) (idx_lt c2) rfl) (Take.cons _ _ _ _ _ Rem.p0 (Take.nil _)) ?_
 refine GoP.qN rfl (ps_indexAddr0 rfl rfl c1 rfl) ?_
 refine GoP.one1 rfl trivial (ef_store rfl rfl rfl At.p0 (upd_row1 (v := (p0.getD p1.toNat (0 : Int))) rfl) (lt_len (idx_lt c1) (by first | rfl | omega | (simp only [row_len, gridC_len, rowO_len, List.length_set] <;> first | rfl | omega))) rfl) (Take.cons _ _ _ _ _ Rem.p0 (Take.nil _)) ?_
 exact GoP.done (hQ)
 intro hQ
 rintro _ rfl
 refine GoP.oneN rfl (ps_load rfl At.p0 At.p0 (idx_lt c1) rfl rfl) (Take.nil _) ?_
 refine GoP.qN rfl (ps_indexAddr0 rfl rfl c2 rfl) ?_
 refine GoP.one1 rfl trivial (ef_store rfl rfl rfl At.p0 (upd_row1 (v := (p0.getD p3.toNat (0 : Int))) rfl) (idx_lt c2) rfl) (Take.cons _ _ _ _ _ Rem.p0 (Take.nil _)) ?_
 refine GoP.qN rfl (ps_indexAddr0 rfl rfl c1 rfl) ?_
 refine GoP.one1 rfl trivial (ef_store rfl rfl rfl At.p0 (upd_row1 (v := (p0.getD p1.toNat (0 : Int))) rfl) (lt_len (idx_lt c1) (by first | rfl | omega | (simp only [row_len, gridC_len, rowO_len, List.length_set] <;> first | rfl | omega))) rfl) (Take.cons _ _ _ _ _ Rem.p0 (Take.nil _)) ?_
 refine GoP.done (GoK.le ?_ (hQ))
 refine Le.ofDW ?_ (TkD.cons _ _ _ _ _ Rem.p0 (HLe.refl _) (TkD.nil _))
 repeat (first | exact EnvLeW.nil | refine EnvLeW.cons rfl ?_ | refine EnvLeW.skip rfl ?_)
 refine GoK.code ?_
 refine GoC.seq ?_
 refine GoC.region ?_
 refine GoO.pure (ps_move rfl rfl) ?_
 have c3 := ck_l H; replace H := ck_r H
 refine GoO.pure (ps_add rfl rfl rfl c3) ?_
 refine GoO.pure (ps_move rfl rfl) ?_
 have c4 := ck_l H; replace H := ck_r H
 refine GoO.pure (ps_sub rfl rfl rfl c4) ?_
 refine GoO.pure (ps_assign rfl rfl) ?_
 refine GoO.pure (ps_assign rfl rfl) ?_
 refine GoO.nil ?_
 refine GoK.code ?_
 refine GoC.seq ?_
 have hb := bind_l H; clear H
 obtain ⟨q8, hl17, HK6⟩ := hb
 refine GoC.blockJ [(0, .own βp0 1 0 p0.length), (1, .v (.int .i64 p1)), (11, .v (.int .i64 (p2 - 1)))] [.one βp0 3 1 (row ((p0.set p1.toNat (p0.getD p3.toNat (0 : Int))).set p3.toNat (p0.getD p1.toNat (0 : Int))))] (fun v h => ∃ (x9 : Int), q8 = .go x9 ∧ v = [(10, .v (.int .i64 x9))] ∧ h = []) ?_ ?_
 refine GoC.loopJ [(0, _), (1, _), (11, _)] [.one βp0 3 1 (row ((p0.set p1.toNat (p0.getD p3.toNat (0 : Int))).set p3.toNat (p0.getD p1.toNat (0 : Int))))] (fun mQ v h => ∃ (x5 : Int), loopC (slices_partitionOrdered_int_B1 p0 p1 p2 p3) mQ x5 = some q8 ∧ v = [(10, .v (.int .i64 x5))] ∧ h = []) 1000000 ⟨_, hl17, rfl, rfl⟩ (EnvD.eq rfl (EnvD.eq rfl (EnvD.eq rfl (EnvD.eq rfl (EnvD.nil))))) (TkD.cons _ _ _ _ _ Rem.p0 (HLe.refl _) (TkD.nil _)) ?_
 rintro m10 v h ⟨x5, hF7, rfl, rfl⟩
 obtain ⟨m10', rfl⟩ | rfl : (∃ x, m10 = x + 1) ∨ m10 = 0 := by cases m10 <;> simp
 case inr => cases hF7
 have hb := bind_l hF7; clear hF7
 obtain ⟨qrm10, H, hF7⟩ := hb
 refine GoC.seq ?_
 refine GoC.seq ?_
 refine GoC.drawA (.q 0 (.q 1 (.q 2 (.q 3 (.q 4 (.q 5 (.q 6 (.q 7 (.q 8 (.q 9 (.q 10 (.q 11 (.one 12 (.q 13 (.done))))))))))))))) follows (by kernel_rfl) ?_
 refine GoP.qN rfl (ps_move rfl rfl) ?_
 refine GoP.qN rfl (ps_move rfl rfl) ?_
 refine GoP.qN rfl (ps_leq rfl rfl rfl) ?_
 refine GoP.qN rfl (ps_move rfl rfl) ?_
 refine GoP.decideD 33 rfl (fun h11 => ?_) (fun h11 => ?_)
 replace H := ite_t h11 H
 refine GoP.qT rfl rfl rfl rfl (ps_move rfl rfl) ?_
 refine GoP.qT rfl rfl rfl rfl (ps_move rfl rfl) ?_
 have c12 := ck_l H; replace H := ck_r H
 refine GoP.qT rfl rfl rfl rfl (ps_indexAddr0 rfl rfl c12 rfl) ?_
 refine GoP.qT rfl rfl rfl rfl (ps_load rfl At.p0 At.p0 (lt_len (idx_lt c12) (by first | rfl | omega | (simp only [row_len, gridC_len, rowO_len, List.length_set] <;> first | rfl | omega))) rfl rfl) ?_
 refine GoP.qT rfl rfl rfl rfl (ps_move rfl rfl) ?_
 refine GoP.qT rfl rfl rfl rfl (ps_move rfl rfl) ?_
 refine GoP.qT rfl rfl rfl rfl (ps_indexAddr0 rfl rfl c2 rfl) ?_
 refine GoP.qT rfl rfl rfl rfl (ps_load rfl At.p0 At.p0 (lt_len (idx_lt c2) (by first | rfl | omega | (simp only [row_len, gridC_len, rowO_len, List.length_set] <;> first | rfl | omega))) rfl rfl) ?_
 have hb := bind_l H; clear H
 obtain ⟨r13, e14, H⟩ := hb
 refine GoP.oneC rfl ⟨_, rfl, rfl, rfl⟩ (ef_call rfl (Take.nil _) (Take.nil _) (cmp_Less_int_spec (((p0.set p1.toNat (p0.getD p3.toNat (0 : Int))).set p3.toNat (p0.getD p1.toNat (0 : Int))).getD x5.toNat (0 : Int)) (((p0.set p1.toNat (p0.getD p3.toNat (0 : Int))).set p3.toNat (p0.getD p1.toNat (0 : Int))).getD p1.toNat (0 : Int)) e14) (LendL.cons (Lend.refl _ _) (LendL.cons (Lend.refl _ _) (LendL.nil))) rfl (cmp_Less_int_I (r13))) (Take.cons _ _ _ _ _ Rem.p0 (Take.nil _)) (fun rr HH hp => ?_)
 obtain ⟨rfl, rfl⟩ := hp
 refine GoP.qN rfl (ps_pickT rfl rfl rfl) ?_
 refine GoP.done ?_
 refine GoK.code ?_
 refine GoC.cond rfl (fun h15 => ?_) (fun h15 => ?_)
 replace H := itb_t h15 H
 refine GoC.skip ?_
 refine GoK.code ?_
 refine GoC.block ?_
 refine GoC.region ?_
 refine GoO.pure (ps_move rfl rfl) ?_
 have c16 := ck_l H; replace H := ck_r H
 refine GoO.pure (ps_add rfl rfl rfl c16) ?_
 refine GoO.pure (ps_assign rfl rfl) ?_
 refine GoO.nil ?_
 refine GoK.blk ?_
 obtain rfl := Option.some.inj H
 exact GoK.againJ m10' (by omega) ⟨_, hF7, rfl, rfl⟩ (EnvD.eq rfl (EnvD.eq rfl (EnvD.eq rfl (EnvD.eq rfl (EnvD.nil))))) (TkD.cons _ _ _ _ _ Rem.p0 (HLe.refl _) (TkD.nil _))
 replace H := itb_f h15 H
 refine GoC.exit rfl ?_
 obtain rfl := Option.some.inj H
 obtain rfl := Option.some.inj hF7
 exact GoK.meet ⟨_, rfl, rfl, rfl⟩ (EnvD.eq rfl (EnvD.cons rfl (DLe.len (by first | rfl | omega | (simp only [row_len, gridC_len, rowO_len, List.length_set] <;> first | rfl | omega))) (EnvD.eq rfl (EnvD.eq rfl (EnvD.nil))))) (TkD.cons _ _ _ _ _ Rem.p0 (HLe.refl _) (TkD.nil _))
 replace H := ite_f h11 H
 refine GoP.qF rfl rfl rfl rfl rfl ?_
 refine GoP.qF rfl rfl rfl rfl rfl ?_
 refine GoP.qF rfl rfl rfl rfl rfl ?_
 refine GoP.qF rfl rfl rfl rfl rfl ?_
 refine GoP.qF rfl rfl rfl rfl rfl ?_
 refine GoP.qF rfl rfl rfl rfl rfl ?_
 refine GoP.qF rfl rfl rfl rfl rfl ?_
 refine GoP.qF rfl rfl rfl rfl rfl ?_
 refine GoP.oneF rfl rfl rfl rfl rfl ?_
 refine GoP.qN rfl (ps_pickF rfl rfl rfl) ?_
 refine GoP.done ?_
 refine GoK.code ?_
 refine GoC.condF rfl ?_
 refine GoC.exit rfl ?_
 obtain rfl := Option.some.inj H
 obtain rfl := Option.some.inj hF7
 exact GoK.meet ⟨_, rfl, rfl, rfl⟩ (EnvD.eq rfl (EnvD.cons rfl (DLe.len (by first | rfl | omega | (simp only [row_len, gridC_len, rowO_len, List.length_set] <;> first | rfl | omega))) (EnvD.eq rfl (EnvD.eq rfl (EnvD.nil))))) (TkD.cons _ _ _ _ _ Rem.p0 (HLe.refl _) (TkD.nil _))
 rintro v h ⟨x9, rfl, rfl, rfl⟩
 have H := HK6; clear HK6
 refine GoK.code ?_
 refine GoC.seq ?_
 have hb := bind_l H; clear H
 obtain ⟨q21, hl30, HK19⟩ := hb
 refine GoC.blockJ [(0, .own βp0 1 0 p0.length), (1, .v (.int .i64 p1)), (10, .v (.int .i64 x9))] [.one βp0 3 1 (row ((p0.set p1.toNat (p0.getD p3.toNat (0 : Int))).set p3.toNat (p0.getD p1.toNat (0 : Int))))] (fun v h => ∃ (x22 : Int), q21 = .go x22 ∧ v = [(11, .v (.int .i64 x22))] ∧ h = []) ?_ ?_
 refine GoC.loopJ [(0, _), (1, _), (10, _)] [.one βp0 3 1 (row ((p0.set p1.toNat (p0.getD p3.toNat (0 : Int))).set p3.toNat (p0.getD p1.toNat (0 : Int))))] (fun mQ v h => ∃ (x18 : Int), loopC (slices_partitionOrdered_int_B2 p0 p1 p3 x9) mQ x18 = some q21 ∧ v = [(11, .v (.int .i64 x18))] ∧ h = []) 1000000 ⟨_, hl30, rfl, rfl⟩ (EnvD.eq rfl (EnvD.eq rfl (EnvD.eq rfl (EnvD.eq rfl (EnvD.nil))))) (TkD.cons _ _ _ _ _ Rem.p0 (HLe.refl _) (TkD.nil _)) ?_
 rintro m23 v h ⟨x18, hF20, rfl, rfl⟩
 obtain ⟨m23', rfl⟩ | rfl : (∃ x, m23 = x + 1) ∨ m23 = 0 := by cases m23 <;> simp
 case inr => cases hF20
 have hb := bind_l hF20; clear hF20
 obtain ⟨qrm23, H, hF20⟩ := hb
 refine GoC.seq ?_
 refine GoC.seq ?_
 refine GoC.drawA (.q 0 (.q 1 (.q 2 (.q 3 (.q 4 (.q 5 (.q 6 (.q 7 (.q 8 (.q 9 (.q 10 (.q 11 (.one 12 (.q 13 (.q 14 (.done)))))))))))))))) follows (by kernel_rfl) ?_
 refine GoP.qN rfl (ps_move rfl rfl) ?_
 refine GoP.qN rfl (ps_move rfl rfl) ?_
 refine GoP.qN rfl (ps_leq rfl rfl rfl) ?_
 refine GoP.qN rfl (ps_move rfl rfl) ?_
 refine GoP.decideD 49 rfl (fun h24 => ?_) (fun h24 => ?_)
 replace H := ite_t h24 H
 refine GoP.qT rfl rfl rfl rfl (ps_move rfl rfl) ?_
 refine GoP.qT rfl rfl rfl rfl (ps_move rfl rfl) ?_
 have c25 := ck_l H; replace H := ck_r H
 refine GoP.qT rfl rfl rfl rfl (ps_indexAddr0 rfl rfl c25 rfl) ?_
 refine GoP.qT rfl rfl rfl rfl (ps_load rfl At.p0 At.p0 (lt_len (idx_lt c25) (by first | rfl | omega | (simp only [row_len, gridC_len, rowO_len, List.length_set] <;> first | rfl | omega))) rfl rfl) ?_
 refine GoP.qT rfl rfl rfl rfl (ps_move rfl rfl) ?_
 refine GoP.qT rfl rfl rfl rfl (ps_move rfl rfl) ?_
 refine GoP.qT rfl rfl rfl rfl (ps_indexAddr0 rfl rfl c2 rfl) ?_
 refine GoP.qT rfl rfl rfl rfl (ps_load rfl At.p0 At.p0 (lt_len (idx_lt c2) (by first | rfl | omega | (simp only [row_len, gridC_len, rowO_len, List.length_set] <;> first | rfl | omega))) rfl rfl) ?_
 have hb := bind_l H; clear H
 obtain ⟨r26, e27, H⟩ := hb
 refine GoP.oneC rfl ⟨_, rfl, rfl, rfl⟩ (ef_call rfl (Take.nil _) (Take.nil _) (cmp_Less_int_spec (((p0.set p1.toNat (p0.getD p3.toNat (0 : Int))).set p3.toNat (p0.getD p1.toNat (0 : Int))).getD x18.toNat (0 : Int)) (((p0.set p1.toNat (p0.getD p3.toNat (0 : Int))).set p3.toNat (p0.getD p1.toNat (0 : Int))).getD p1.toNat (0 : Int)) e27) (LendL.cons (Lend.refl _ _) (LendL.cons (Lend.refl _ _) (LendL.nil))) rfl (cmp_Less_int_I (r26))) (Take.cons _ _ _ _ _ Rem.p0 (Take.nil _)) (fun rr HH hp => ?_)
 obtain ⟨rfl, rfl⟩ := hp
 refine GoP.qT rfl rfl rfl rfl (ps_not rfl rfl) ?_
 refine GoP.qN rfl (ps_pickT rfl rfl rfl) ?_
 refine GoP.done ?_
 refine GoK.code ?_
 refine GoC.cond rfl (fun h28 => ?_) (fun h28 => ?_)
 replace H := itb_t h28 H
 refine GoC.skip ?_
 refine GoK.code ?_
 refine GoC.block ?_
 refine GoC.region ?_
 refine GoO.pure (ps_move rfl rfl) ?_
 have c29 := ck_l H; replace H := ck_r H
 refine GoO.pure (ps_sub rfl rfl rfl c29) ?_
 refine GoO.pure (ps_assign rfl rfl) ?_
 refine GoO.nil ?_
 refine GoK.blk ?_
 obtain rfl := Option.some.inj H
 exact GoK.againJ m23' (by omega) ⟨_, hF20, rfl, rfl⟩ (EnvD.eq rfl (EnvD.eq rfl (EnvD.eq rfl (EnvD.eq rfl (EnvD.nil))))) (TkD.cons _ _ _ _ _ Rem.p0 (HLe.refl _) (TkD.nil _))
 replace H := itb_f h28 H
 refine GoC.exit rfl ?_
 obtain rfl := Option.some.inj H
 obtain rfl := Option.some.inj hF20
 exact GoK.meet ⟨_, rfl, rfl, rfl⟩ (EnvD.eq rfl (EnvD.cons rfl (DLe.len (by first | rfl | omega | (simp only [row_len, gridC_len, rowO_len, List.length_set] <;> first | rfl | omega))) (EnvD.eq rfl (EnvD.eq rfl (EnvD.nil))))) (TkD.cons _ _ _ _ _ Rem.p0 (HLe.refl _) (TkD.nil _))
 replace H := ite_f h24 H
 refine GoP.qF rfl rfl rfl rfl rfl ?_
 refine GoP.qF rfl rfl rfl rfl rfl ?_
 refine GoP.qF rfl rfl rfl rfl rfl ?_
 refine GoP.qF rfl rfl rfl rfl rfl ?_
 refine GoP.qF rfl rfl rfl rfl rfl ?_
 refine GoP.qF rfl rfl rfl rfl rfl ?_
 refine GoP.qF rfl rfl rfl rfl rfl ?_
 refine GoP.qF rfl rfl rfl rfl rfl ?_
 refine GoP.oneF rfl rfl rfl rfl rfl ?_
 refine GoP.qF rfl rfl rfl rfl rfl ?_
 refine GoP.qN rfl (ps_pickF rfl rfl rfl) ?_
 refine GoP.done ?_
 refine GoK.code ?_
 refine GoC.condF rfl ?_
 refine GoC.exit rfl ?_
 obtain rfl := Option.some.inj H
 obtain rfl := Option.some.inj hF20
 exact GoK.meet ⟨_, rfl, rfl, rfl⟩ (EnvD.eq rfl (EnvD.cons rfl (DLe.len (by first | rfl | omega | (simp only [row_len, gridC_len, rowO_len, List.length_set] <;> first | rfl | omega))) (EnvD.eq rfl (EnvD.eq rfl (EnvD.nil))))) (TkD.cons _ _ _ _ _ Rem.p0 (HLe.refl _) (TkD.nil _))
 rintro v h ⟨x22, rfl, rfl, rfl⟩
 have H := HK19; clear HK19
 refine GoK.code ?_
 refine GoC.seq ?_
 refine GoC.seq ?_
 refine GoC.region ?_
 refine GoO.pure (ps_move rfl rfl) ?_
 refine GoO.pure (ps_move rfl rfl) ?_
 refine GoO.pure (ps_gtr rfl rfl rfl) ?_
 refine GoO.nil ?_
 refine GoK.code ?_
 refine GoC.condD rfl (fun h31 => ?_) (fun h31 => ?_)
 replace H := ite_t h31 H
 refine GoC.seq ?_
 refine GoC.drawP (.q 0 (.q 1 (.q 2 (.q 3 (.q 4 (.q 5 (.q 6 (.q 8 (.q 9 (.q 10 (.two 7 11 (.one 11 (.q 12 (.one 13 (.q 14 (.one 15 (.done)))))) (.one 7 (.q 12 (.one 13 (.q 14 (.one 15 (.done))))))))))))))))) [] follows (by kernel_rfl) (Take.nil _) ?_
 refine GoP.qN rfl (ps_move rfl rfl) ?_
 refine GoP.qN rfl (ps_move rfl rfl) ?_
 refine GoP.qN rfl (ps_move rfl rfl) ?_
 refine GoP.qN rfl (ps_move rfl rfl) ?_
 refine GoP.qN rfl (ps_move rfl rfl) ?_
 refine GoP.qN rfl (ps_move rfl rfl) ?_
 refine GoP.qN rfl (ps_indexAddr0 rfl rfl c2 rfl) ?_
 refine GoP.qN rfl (ps_move rfl rfl) ?_
 refine GoP.qN rfl (ps_move rfl rfl) ?_
 have c32 := ck_l H; replace H := ck_r H
 refine GoP.qN rfl (ps_indexAddr0 rfl rfl c32 rfl) ?_
 apply GoP.fork0
 exact rfl
 exact rfl
 exact trivial
 exact trivial
 exact Eff.pure (H1 := [.one βp0 3 1 (row ((p0.set p1.toNat (p0.getD p3.toNat (0 : Int))).set p3.toNat (p0.getD p1.toNat (0 : Int))))]) (ps_load rfl At.p0 At.p0 (lt_len (idx_lt c2) (by first | rfl | omega | (simp only [row_len, gridC_len, rowO_len, List.length_set] <;> first | rfl | omega))) rfl rfl)
 exact Eff.pure (H1 := [.one βp0 3 1 (row ((p0.set p1.toNat (p0.getD p3.toNat (0 : Int))).set p3.toNat (p0.getD p1.toNat (0 : Int))))]) (ps_load rfl At.p0 At.p0 (lt_len (idx_lt c32) (by first | rfl | omega | (simp only [row_len, gridC_len, rowO_len, List.length_set] <;> first | rfl | omega))) rfl rfl)
 exact (Take.nil _)
 exact (Take.nil _)
 intro hQ
 rintro _ rfl
 refine GoP.oneN rfl (ps_load rfl At.p0 At.p0 (lt_len (idx_lt c32) (by first | rfl | omega | (simp only [row_len, gridC_len, rowO_len, List.length_set] <;> first | rfl | omega))) rfl rfl) (Take.nil _) ?_
 refine GoP.qN rfl (ps_indexAddr0 rfl rfl c32 rfl) ?_
 refine GoP.one1 rfl trivial (ef_store rfl rfl rfl At.p0 (upd_row1 (v := (((p0.set p1.toNat (p0.getD p3.toNat (0 : Int))).set p3.toNat (p0.getD p1.toNat (0 : Int))).getD p1.toNat (0 : Int))) rfl) (lt_len (idx_lt c32) (by first | rfl | omega | (simp only [row_len, gridC_len, rowO_len, List.length_set] <;> first | rfl | omega))) rfl) (Take.cons _ _ _ _ _ Rem.p0 (Take.nil _)) ?_
 refine GoP.qN rfl (ps_indexAddr0 rfl rfl c2 rfl) ?_
 refine GoP.one1 rfl trivial (ef_store rfl rfl rfl At.p0 (upd_row1 (v := (((p0.set p1.toNat (p0.getD p3.toNat (0 : Int))).set p3.toNat (p0.getD p1.toNat (0 : Int))).getD x22.toNat (0 : Int))) rfl) (lt_len (idx_lt c2) (by first | rfl | omega | (simp only [row_len, gridC_len, rowO_len, List.length_set] <;> first | rfl | omega))) rfl) (Take.cons _ _ _ _ _ Rem.p0 (Take.nil _)) ?_
 exact GoP.done (hQ)
 intro hQ
 rintro _ rfl
 refine GoP.oneN rfl (ps_load rfl At.p0 At.p0 (lt_len (idx_lt c2) (by first | rfl | omega | (simp only [row_len, gridC_len, rowO_len, List.length_set] <;> first | rfl | omega))) rfl rfl) (Take.nil _) ?_
 refine GoP.qN rfl (ps_indexAddr0 rfl rfl c32 rfl) ?_
 refine GoP.one1 rfl trivial (ef_store rfl rfl rfl At.p0 (upd_row1 (v := (((p0.set p1.toNat (p0.getD p3.toNat (0 : Int))).set p3.toNat (p0.getD p1.toNat (0 : Int))).getD p1.toNat (0 : Int))) rfl) (lt_len (idx_lt c32) (by first | rfl | omega | (simp only [row_len, gridC_len, rowO_len, List.length_set] <;> first | rfl | omega))) rfl) (Take.cons _ _ _ _ _ Rem.p0 (Take.nil _)) ?_
 refine GoP.qN rfl (ps_indexAddr0 rfl rfl c2 rfl) ?_
 refine GoP.one1 rfl trivial (ef_store rfl rfl rfl At.p0 (upd_row1 (v := (((p0.set p1.toNat (p0.getD p3.toNat (0 : Int))).set p3.toNat (p0.getD p1.toNat (0 : Int))).getD x22.toNat (0 : Int))) rfl) (lt_len (idx_lt c2) (by first | rfl | omega | (simp only [row_len, gridC_len, rowO_len, List.length_set] <;> first | rfl | omega))) rfl) (Take.cons _ _ _ _ _ Rem.p0 (Take.nil _)) ?_
 refine GoP.done (GoK.le ?_ (hQ))
 refine Le.ofDW ?_ (TkD.cons _ _ _ _ _ Rem.p0 (HLe.refl _) (TkD.nil _))
 repeat (first | exact EnvLeW.nil | refine EnvLeW.cons rfl ?_ | refine EnvLeW.skip rfl ?_)
 refine GoK.code ?_
 refine GoC.seq ?_
 refine GoC.region ?_
 refine GoO.pure (ps_move rfl rfl) ?_
 refine GoO.pure (ps_assign rfl rfl) ?_
 refine GoO.pure (ps_assign rfl rfl) ?_
 refine GoO.nil ?_
 refine GoK.code ?_
 obtain rfl := Option.some.inj H
 exact GoC.retL (ds := [.v (.int .i64 x22), .v (.bool true)]) Try.results87 (ResL.cons (ResD.tmp rfl) (ResL.cons (ResD.tmp rfl) (ResL.nil))) (Take.cons _ _ _ _ _ Rem.p0 (Take.nil _)) ⟨rfl, rfl⟩
 replace H := ite_f h31 H
 refine GoC.skip ?_
 refine GoK.code ?_
 refine GoC.seq ?_
 refine GoC.drawP (.q 0 (.q 1 (.q 2 (.q 3 (.q 4 (.q 5 (.q 6 (.q 8 (.q 9 (.q 10 (.two 7 11 (.one 11 (.q 12 (.one 13 (.q 14 (.one 15 (.done)))))) (.one 7 (.q 12 (.one 13 (.q 14 (.one 15 (.done))))))))))))))))) [] follows (by kernel_rfl) (Take.nil _) ?_
 refine GoP.qN rfl (ps_move rfl rfl) ?_
 refine GoP.qN rfl (ps_move rfl rfl) ?_
 refine GoP.qN rfl (ps_move rfl rfl) ?_
 refine GoP.qN rfl (ps_move rfl rfl) ?_
 refine GoP.qN rfl (ps_move rfl rfl) ?_
 refine GoP.qN rfl (ps_move rfl rfl) ?_
 have c33 := ck_l H; replace H := ck_r H
 refine GoP.qN rfl (ps_indexAddr0 rfl rfl c33 rfl) ?_
 refine GoP.qN rfl (ps_move rfl rfl) ?_
 refine GoP.qN rfl (ps_move rfl rfl) ?_
 have c34 := ck_l H; replace H := ck_r H
 refine GoP.qN rfl (ps_indexAddr0 rfl rfl c34 rfl) ?_
 apply GoP.fork0
 exact rfl
 exact rfl
 exact trivial
 exact trivial
 exact Eff.pure (H1 := [.one βp0 3 1 (row ((p0.set p1.toNat (p0.getD p3.toNat (0 : Int))).set p3.toNat (p0.getD p1.toNat (0 : Int))))]) (ps_load rfl At.p0 At.p0 (lt_len (idx_lt c33) (by first | rfl | omega | (simp only [row_len, gridC_len, rowO_len, List.length_set] <;> first | rfl | omega))) rfl rfl)
 exact Eff.pure (H1 := [.one βp0 3 1 (row ((p0.set p1.toNat (p0.getD p3.toNat (0 : Int))).set p3.toNat (p0.getD p1.toNat (0 : Int))))]) (ps_load rfl At.p0 At.p0 (lt_len (idx_lt c34) (by first | rfl | omega | (simp only [row_len, gridC_len, rowO_len, List.length_set] <;> first | rfl | omega))) rfl rfl)
 exact (Take.nil _)
 exact (Take.nil _)
 intro hQ
 rintro _ rfl
 refine GoP.oneN rfl (ps_load rfl At.p0 At.p0 (lt_len (idx_lt c34) (by first | rfl | omega | (simp only [row_len, gridC_len, rowO_len, List.length_set] <;> first | rfl | omega))) rfl rfl) (Take.nil _) ?_
 refine GoP.qN rfl (ps_indexAddr0 rfl rfl c34 rfl) ?_
 refine GoP.one1 rfl trivial (ef_store rfl rfl rfl At.p0 (upd_row1 (v := (((p0.set p1.toNat (p0.getD p3.toNat (0 : Int))).set p3.toNat (p0.getD p1.toNat (0 : Int))).getD x22.toNat (0 : Int))) rfl) (lt_len (idx_lt c34) (by first | rfl | omega | (simp only [row_len, gridC_len, rowO_len, List.length_set] <;> first | rfl | omega))) rfl) (Take.cons _ _ _ _ _ Rem.p0 (Take.nil _)) ?_
 refine GoP.qN rfl (ps_indexAddr0 rfl rfl c33 rfl) ?_
 refine GoP.one1 rfl trivial (ef_store rfl rfl rfl At.p0 (upd_row1 (v := (((p0.set p1.toNat (p0.getD p3.toNat (0 : Int))).set p3.toNat (p0.getD p1.toNat (0 : Int))).getD x9.toNat (0 : Int))) rfl) (lt_len (idx_lt c33) (by first | rfl | omega | (simp only [row_len, gridC_len, rowO_len, List.length_set] <;> first | rfl | omega))) rfl) (Take.cons _ _ _ _ _ Rem.p0 (Take.nil _)) ?_
 exact GoP.done (hQ)
 intro hQ
 rintro _ rfl
 refine GoP.oneN rfl (ps_load rfl At.p0 At.p0 (lt_len (idx_lt c33) (by first | rfl | omega | (simp only [row_len, gridC_len, rowO_len, List.length_set] <;> first | rfl | omega))) rfl rfl) (Take.nil _) ?_
 refine GoP.qN rfl (ps_indexAddr0 rfl rfl c34 rfl) ?_
 refine GoP.one1 rfl trivial (ef_store rfl rfl rfl At.p0 (upd_row1 (v := (((p0.set p1.toNat (p0.getD p3.toNat (0 : Int))).set p3.toNat (p0.getD p1.toNat (0 : Int))).getD x22.toNat (0 : Int))) rfl) (lt_len (idx_lt c34) (by first | rfl | omega | (simp only [row_len, gridC_len, rowO_len, List.length_set] <;> first | rfl | omega))) rfl) (Take.cons _ _ _ _ _ Rem.p0 (Take.nil _)) ?_
 refine GoP.qN rfl (ps_indexAddr0 rfl rfl c33 rfl) ?_
 refine GoP.one1 rfl trivial (ef_store rfl rfl rfl At.p0 (upd_row1 (v := (((p0.set p1.toNat (p0.getD p3.toNat (0 : Int))).set p3.toNat (p0.getD p1.toNat (0 : Int))).getD x9.toNat (0 : Int))) rfl) (lt_len (idx_lt c33) (by first | rfl | omega | (simp only [row_len, gridC_len, rowO_len, List.length_set] <;> first | rfl | omega))) rfl) (Take.cons _ _ _ _ _ Rem.p0 (Take.nil _)) ?_
 refine GoP.done (GoK.le ?_ (hQ))
 refine Le.ofDW ?_ (TkD.cons _ _ _ _ _ Rem.p0 (HLe.refl _) (TkD.nil _))
 repeat (first | exact EnvLeW.nil | refine EnvLeW.cons rfl ?_ | refine EnvLeW.skip rfl ?_)
 refine GoK.code ?_
 refine GoC.seq ?_
 refine GoC.region ?_
 refine GoO.pure (ps_move rfl rfl) ?_
 have c35 := ck_l H; replace H := ck_r H
 refine GoO.pure (ps_add rfl rfl rfl c35) ?_
 refine GoO.pure (ps_assign rfl rfl) ?_
 refine GoO.nil ?_
 refine GoK.code ?_
 refine GoC.seq ?_
 refine GoC.region ?_
 refine GoO.pure (ps_move rfl rfl) ?_
 have c36 := ck_l H; replace H := ck_r H
 refine GoO.pure (ps_sub rfl rfl rfl c36) ?_
 refine GoO.pure (ps_assign rfl rfl) ?_
 refine GoO.nil ?_
 refine GoK.code ?_
 refine GoC.seq ?_
 have hb := bind_l H; clear H
 obtain ⟨q42, hl80, HK40⟩ := hb
 refine GoC.blockJ [(1, .v (.int .i64 p1))] [] (fun v h => ∃ (l43 : (List Int)) (x44 : Int) (x45 : Int), q42 = .go (l43, x44, x45) ∧ v = [(0, .own βp0 1 0 l43.length), (11, .v (.int .i64 x45))] ∧ h = [.one βp0 3 1 (row l43)]) ?_ ?_
 refine GoC.loopJ [(1, _)] [] (fun mQ v h => ∃ (l37 : (List Int)) (x38 : Int) (x39 : Int), loopC (slices_partitionOrdered_int_B3 p1) mQ (l37, x38, x39) = some q42 ∧ v = [(0, .own βp0 1 0 l37.length), (10, .v (.int .i64 x38)), (11, .v (.int .i64 x39))] ∧ h = [.one βp0 3 1 (row l37)]) 1000000 ⟨_, _, _, hl80, rfl, rfl⟩ (EnvD.cons rfl (DLe.len (by first | rfl | omega | (simp only [row_len, gridC_len, rowO_len, List.length_set] <;> first | rfl | omega))) (EnvD.eq rfl (EnvD.eq rfl (EnvD.eq rfl (EnvD.nil))))) (TkD.cons _ _ _ _ _ Rem.p0 (HLe.refl _) (TkD.nil _)) ?_
 rintro m46 v h ⟨l37, x38, x39, hF41, rfl, rfl⟩
 obtain ⟨m46', rfl⟩ | rfl : (∃ x, m46 = x + 1) ∨ m46 = 0 := by cases m46 <;> simp
 case inr => cases hF41
 have hb := bind_l hF41; clear hF41
 obtain ⟨qrm46, H, hF41⟩ := hb
 refine GoC.block ?_
 refine GoC.seq ?_
 have hb := bind_l H; clear H
 obtain ⟨q50, hl60, HK48⟩ := hb
 refine GoC.blockJ [(0, .own βp0 1 0 l37.length), (1, .v (.int .i64 p1)), (11, .v (.int .i64 x39))] [.one βp0 3 1 (row l37)] (fun v h => ∃ (x51 : Int), q50 = .go x51 ∧ v = [(10, .v (.int .i64 x51))] ∧ h = []) ?_ ?_
 refine GoC.loopJ [(0, _), (1, _), (11, _)] [.one βp0 3 1 (row l37)] (fun mQ v h => ∃ (x47 : Int), loopC (slices_partitionOrdered_int_B4 p1 l37 x39) mQ x47 = some q50 ∧ v = [(10, .v (.int .i64 x47))] ∧ h = []) 1000000 ⟨_, hl60, rfl, rfl⟩ (EnvD.eq rfl (EnvD.eq rfl (EnvD.eq rfl (EnvD.eq rfl (EnvD.nil))))) (TkD.cons _ _ _ _ _ Rem.p0 (HLe.refl _) (TkD.nil _)) ?_
 rintro m52 v h ⟨x47, hF49, rfl, rfl⟩
 obtain ⟨m52', rfl⟩ | rfl : (∃ x, m52 = x + 1) ∨ m52 = 0 := by cases m52 <;> simp
 case inr => cases hF49
 have hb := bind_l hF49; clear hF49
 obtain ⟨qrm52, H, hF49⟩ := hb
 refine GoC.seq ?_
 refine GoC.seq ?_
 refine GoC.drawA (.q 0 (.q 1 (.q 2 (.q 3 (.q 4 (.q 5 (.q 6 (.q 7 (.q 8 (.q 9 (.q 10 (.q 11 (.one 12 (.q 13 (.done))))))))))))))) follows (by kernel_rfl) ?_
 refine GoP.qN rfl (ps_move rfl rfl) ?_
 refine GoP.qN rfl (ps_move rfl rfl) ?_
 refine GoP.qN rfl (ps_leq rfl rfl rfl) ?_
 refine GoP.qN rfl (ps_move rfl rfl) ?_
 refine GoP.decideD 102 rfl (fun h53 => ?_) (fun h53 => ?_)
 replace H := ite_t h53 H
 refine GoP.qT rfl rfl rfl rfl (ps_move rfl rfl) ?_
 refine GoP.qT rfl rfl rfl rfl (ps_move rfl rfl) ?_
 have c54 := ck_l H; replace H := ck_r H
 refine GoP.qT rfl rfl rfl rfl (ps_indexAddr0 rfl rfl c54 rfl) ?_
 refine GoP.qT rfl rfl rfl rfl (ps_load rfl At.p0 At.p0 (idx_lt c54) rfl rfl) ?_
 refine GoP.qT rfl rfl rfl rfl (ps_move rfl rfl) ?_
 refine GoP.qT rfl rfl rfl rfl (ps_move rfl rfl) ?_
 have c55 := ck_l H; replace H := ck_r H
 refine GoP.qT rfl rfl rfl rfl (ps_indexAddr0 rfl rfl c55 rfl) ?_
 refine GoP.qT rfl rfl rfl rfl (ps_load rfl At.p0 At.p0 (idx_lt c55) rfl rfl) ?_
 have hb := bind_l H; clear H
 obtain ⟨r56, e57, H⟩ := hb
 refine GoP.oneC rfl ⟨_, rfl, rfl, rfl⟩ (ef_call rfl (Take.nil _) (Take.nil _) (cmp_Less_int_spec (l37.getD x47.toNat (0 : Int)) (l37.getD p1.toNat (0 : Int)) e57) (LendL.cons (Lend.refl _ _) (LendL.cons (Lend.refl _ _) (LendL.nil))) rfl (cmp_Less_int_I (r56))) (Take.cons _ _ _ _ _ Rem.p0 (Take.nil _)) (fun rr HH hp => ?_)
 obtain ⟨rfl, rfl⟩ := hp
 refine GoP.qN rfl (ps_pickT rfl rfl rfl) ?_
 refine GoP.done ?_
 refine GoK.code ?_
 refine GoC.cond rfl (fun h58 => ?_) (fun h58 => ?_)
 replace H := itb_t h58 H
 refine GoC.skip ?_
 refine GoK.code ?_
 refine GoC.block ?_
 refine GoC.region ?_
 refine GoO.pure (ps_move rfl rfl) ?_
 have c59 := ck_l H; replace H := ck_r H
 refine GoO.pure (ps_add rfl rfl rfl c59) ?_
 refine GoO.pure (ps_assign rfl rfl) ?_
 refine GoO.nil ?_
 refine GoK.blk ?_
 obtain rfl := Option.some.inj H
 exact GoK.againJ m52' (by omega) ⟨_, hF49, rfl, rfl⟩ (EnvD.eq rfl (EnvD.eq rfl (EnvD.eq rfl (EnvD.eq rfl (EnvD.nil))))) (TkD.cons _ _ _ _ _ Rem.p0 (HLe.refl _) (TkD.nil _))
 replace H := itb_f h58 H
 refine GoC.exit rfl ?_
 obtain rfl := Option.some.inj H
 obtain rfl := Option.some.inj hF49
 exact GoK.meet ⟨_, rfl, rfl, rfl⟩ (EnvD.eq rfl (EnvD.eq rfl (EnvD.eq rfl (EnvD.eq rfl (EnvD.nil))))) (TkD.cons _ _ _ _ _ Rem.p0 (HLe.refl _) (TkD.nil _))
 replace H := ite_f h53 H
 refine GoP.qF rfl rfl rfl rfl rfl ?_
 refine GoP.qF rfl rfl rfl rfl rfl ?_
 refine GoP.qF rfl rfl rfl rfl rfl ?_
 refine GoP.qF rfl rfl rfl rfl rfl ?_
 refine GoP.qF rfl rfl rfl rfl rfl ?_
 refine GoP.qF rfl rfl rfl rfl rfl ?_
 refine GoP.qF rfl rfl rfl rfl rfl ?_
 refine GoP.qF rfl rfl rfl rfl rfl ?_
 refine GoP.oneF rfl rfl rfl rfl rfl ?_
 refine GoP.qN rfl (ps_pickF rfl rfl rfl) ?_
 refine GoP.done ?_
 refine GoK.code ?_
 refine GoC.condF rfl ?_
 refine GoC.exit rfl ?_
 obtain rfl := Option.some.inj H
 obtain rfl := Option.some.inj hF49
 exact GoK.meet ⟨_, rfl, rfl, rfl⟩ (EnvD.eq rfl (EnvD.eq rfl (EnvD.eq rfl (EnvD.eq rfl (EnvD.nil))))) (TkD.cons _ _ _ _ _ Rem.p0 (HLe.refl _) (TkD.nil _))
 rintro v h ⟨x51, rfl, rfl, rfl⟩
 have H := HK48; clear HK48
 refine GoK.code ?_
 refine GoC.seq ?_
 have hb := bind_l H; clear H
 obtain ⟨q64, hl74, HK62⟩ := hb
 refine GoC.blockJ [(0, .own βp0 1 0 l37.length), (1, .v (.int .i64 p1)), (10, .v (.int .i64 x51))] [.one βp0 3 1 (row l37)] (fun v h => ∃ (x65 : Int), q64 = .go x65 ∧ v = [(11, .v (.int .i64 x65))] ∧ h = []) ?_ ?_
 refine GoC.loopJ [(0, _), (1, _), (10, _)] [.one βp0 3 1 (row l37)] (fun mQ v h => ∃ (x61 : Int), loopC (slices_partitionOrdered_int_B5 p1 l37 x51) mQ x61 = some q64 ∧ v = [(11, .v (.int .i64 x61))] ∧ h = []) 1000000 ⟨_, hl74, rfl, rfl⟩ (EnvD.eq rfl (EnvD.eq rfl (EnvD.eq rfl (EnvD.eq rfl (EnvD.nil))))) (TkD.cons _ _ _ _ _ Rem.p0 (HLe.refl _) (TkD.nil _)) ?_
 rintro m66 v h ⟨x61, hF63, rfl, rfl⟩
 obtain ⟨m66', rfl⟩ | rfl : (∃ x, m66 = x + 1) ∨ m66 = 0 := by cases m66 <;> simp
 case inr => cases hF63
 have hb := bind_l hF63; clear hF63
 obtain ⟨qrm66, H, hF63⟩ := hb
 refine GoC.seq ?_
 refine GoC.seq ?_
 refine GoC.drawA (.q 0 (.q 1 (.q 2 (.q 3 (.q 4 (.q 5 (.q 6 (.q 7 (.q 8 (.q 9 (.q 10 (.q 11 (.one 12 (.q 13 (.q 14 (.done)))))))))))))))) follows (by kernel_rfl) ?_
 refine GoP.qN rfl (ps_move rfl rfl) ?_
 refine GoP.qN rfl (ps_move rfl rfl) ?_
 refine GoP.qN rfl (ps_leq rfl rfl rfl) ?_
 refine GoP.qN rfl (ps_move rfl rfl) ?_
 refine GoP.decideD 118 rfl (fun h67 => ?_) (fun h67 => ?_)
 replace H := ite_t h67 H
 refine GoP.qT rfl rfl rfl rfl (ps_move rfl rfl) ?_
 refine GoP.qT rfl rfl rfl rfl (ps_move rfl rfl) ?_
 have c68 := ck_l H; replace H := ck_r H
 refine GoP.qT rfl rfl rfl rfl (ps_indexAddr0 rfl rfl c68 rfl) ?_
 refine GoP.qT rfl rfl rfl rfl (ps_load rfl At.p0 At.p0 (idx_lt c68) rfl rfl) ?_
 refine GoP.qT rfl rfl rfl rfl (ps_move rfl rfl) ?_
 refine GoP.qT rfl rfl rfl rfl (ps_move rfl rfl) ?_
 have c69 := ck_l H; replace H := ck_r H
 refine GoP.qT rfl rfl rfl rfl (ps_indexAddr0 rfl rfl c69 rfl) ?_
 refine GoP.qT rfl rfl rfl rfl (ps_load rfl At.p0 At.p0 (idx_lt c69) rfl rfl) ?_
 have hb := bind_l H; clear H
 obtain ⟨r70, e71, H⟩ := hb
 refine GoP.oneC rfl ⟨_, rfl, rfl, rfl⟩ (ef_call rfl (Take.nil _) (Take.nil _) (cmp_Less_int_spec (l37.getD x61.toNat (0 : Int)) (l37.getD p1.toNat (0 : Int)) e71) (LendL.cons (Lend.refl _ _) (LendL.cons (Lend.refl _ _) (LendL.nil))) rfl (cmp_Less_int_I (r70))) (Take.cons _ _ _ _ _ Rem.p0 (Take.nil _)) (fun rr HH hp => ?_)
 obtain ⟨rfl, rfl⟩ := hp
 refine GoP.qT rfl rfl rfl rfl (ps_not rfl rfl) ?_
 refine GoP.qN rfl (ps_pickT rfl rfl rfl) ?_
 refine GoP.done ?_
 refine GoK.code ?_
 refine GoC.cond rfl (fun h72 => ?_) (fun h72 => ?_)
 replace H := itb_t h72 H
 refine GoC.skip ?_
 refine GoK.code ?_
 refine GoC.block ?_
 refine GoC.region ?_
 refine GoO.pure (ps_move rfl rfl) ?_
 have c73 := ck_l H; replace H := ck_r H
 refine GoO.pure (ps_sub rfl rfl rfl c73) ?_
 refine GoO.pure (ps_assign rfl rfl) ?_
 refine GoO.nil ?_
 refine GoK.blk ?_
 obtain rfl := Option.some.inj H
 exact GoK.againJ m66' (by omega) ⟨_, hF63, rfl, rfl⟩ (EnvD.eq rfl (EnvD.eq rfl (EnvD.eq rfl (EnvD.eq rfl (EnvD.nil))))) (TkD.cons _ _ _ _ _ Rem.p0 (HLe.refl _) (TkD.nil _))
 replace H := itb_f h72 H
 refine GoC.exit rfl ?_
 obtain rfl := Option.some.inj H
 obtain rfl := Option.some.inj hF63
 exact GoK.meet ⟨_, rfl, rfl, rfl⟩ (EnvD.eq rfl (EnvD.eq rfl (EnvD.eq rfl (EnvD.eq rfl (EnvD.nil))))) (TkD.cons _ _ _ _ _ Rem.p0 (HLe.refl _) (TkD.nil _))
 replace H := ite_f h67 H
 refine GoP.qF rfl rfl rfl rfl rfl ?_
 refine GoP.qF rfl rfl rfl rfl rfl ?_
 refine GoP.qF rfl rfl rfl rfl rfl ?_
 refine GoP.qF rfl rfl rfl rfl rfl ?_
 refine GoP.qF rfl rfl rfl rfl rfl ?_
 refine GoP.qF rfl rfl rfl rfl rfl ?_
 refine GoP.qF rfl rfl rfl rfl rfl ?_
 refine GoP.qF rfl rfl rfl rfl rfl ?_
 refine GoP.oneF rfl rfl rfl rfl rfl ?_
 refine GoP.qF rfl rfl rfl rfl rfl ?_
 refine GoP.qN rfl (ps_pickF rfl rfl rfl) ?_
 refine GoP.done ?_
 refine GoK.code ?_
 refine GoC.condF rfl ?_
 refine GoC.exit rfl ?_
 obtain rfl := Option.some.inj H
 obtain rfl := Option.some.inj hF63
 exact GoK.meet ⟨_, rfl, rfl, rfl⟩ (EnvD.eq rfl (EnvD.eq rfl (EnvD.eq rfl (EnvD.eq rfl (EnvD.nil))))) (TkD.cons _ _ _ _ _ Rem.p0 (HLe.refl _) (TkD.nil _))
 rintro v h ⟨x65, rfl, rfl, rfl⟩
 have H := HK62; clear HK62
 refine GoK.code ?_
 refine GoC.seq ?_
 refine GoC.seq ?_
 refine GoC.region ?_
 refine GoO.pure (ps_move rfl rfl) ?_
 refine GoO.pure (ps_move rfl rfl) ?_
 refine GoO.pure (ps_gtr rfl rfl rfl) ?_
 refine GoO.nil ?_
 refine GoK.code ?_
 refine GoC.condD rfl (fun h75 => ?_) (fun h75 => ?_)
 replace H := ite_t h75 H
 refine GoC.exit rfl ?_
 obtain rfl := Option.some.inj H
 obtain rfl := Option.some.inj hF41
 exact GoK.meet ⟨_, _, _, rfl, rfl, rfl⟩ (EnvD.cons rfl (DLe.len (by first | rfl | omega | (simp only [row_len, gridC_len, rowO_len] <;> first | rfl | omega))) (EnvD.eq rfl (EnvD.eq rfl (EnvD.nil)))) (TkD.cons _ _ _ _ _ Rem.p0 (HLe.refl _) (TkD.nil _))
 replace H := ite_f h75 H
 refine GoC.skip ?_
 refine GoK.code ?_
 refine GoC.seq ?_
 refine GoC.drawP (.q 0 (.q 1 (.q 2 (.q 3 (.q 4 (.q 5 (.q 6 (.q 8 (.q 9 (.q 10 (.two 7 11 (.one 11 (.q 12 (.one 13 (.q 14 (.one 15 (.done)))))) (.one 7 (.q 12 (.one 13 (.q 14 (.one 15 (.done))))))))))))))))) [] follows (by kernel_rfl) (Take.nil _) ?_
 refine GoP.qN rfl (ps_move rfl rfl) ?_
 refine GoP.qN rfl (ps_move rfl rfl) ?_
 refine GoP.qN rfl (ps_move rfl rfl) ?_
 refine GoP.qN rfl (ps_move rfl rfl) ?_
 refine GoP.qN rfl (ps_move rfl rfl) ?_
 refine GoP.qN rfl (ps_move rfl rfl) ?_
 have c76 := ck_l H; replace H := ck_r H
 refine GoP.qN rfl (ps_indexAddr0 rfl rfl c76 rfl) ?_
 refine GoP.qN rfl (ps_move rfl rfl) ?_
 refine GoP.qN rfl (ps_move rfl rfl) ?_
 have c77 := ck_l H; replace H := ck_r H
 refine GoP.qN rfl (ps_indexAddr0 rfl rfl c77 rfl) ?_
 apply GoP.fork0
 exact rfl
 exact rfl
 exact trivial
 exact trivial
 exact Eff.pure (H1 := [.one βp0 3 1 (row l37)]) (ps_load rfl At.p0 At.p0 (idx_lt c76) rfl rfl)
 exact Eff.pure (H1 := [.one βp0 3 1 (row l37)]) (ps_load rfl At.p0 At.p0 (idx_lt c77) rfl rfl)
 exact (Take.nil _)
 exact (Take.nil _)
 intro hQ
 rintro _ rfl
 refine GoP.oneN rfl (ps_load rfl At.p0 At.p0 (idx_lt c77) rfl rfl) (Take.nil _) ?_
 refine GoP.qN rfl (ps_indexAddr0 rfl rfl c77 rfl) ?_
 refine GoP.one1 rfl trivial (ef_store rfl rfl rfl At.p0 (upd_row1 (v := (l37.getD x65.toNat (0 : Int))) rfl) (idx_lt c77) rfl) (Take.cons _ _ _ _ _ Rem.p0 (Take.nil _)) ?_
 refine GoP.qN rfl (ps_indexAddr0 rfl rfl c76 rfl) ?_
 refine GoP.one1 rfl trivial (ef_store rfl rfl rfl At.p0 (upd_row1 (v := (l37.getD x51.toNat (0 : Int))) rfl) (lt_len (idx_lt c76) (by first | rfl | omega | (simp only [row_len, gridC_len, rowO_len, List.length_set] <;> first | rfl | omega))) rfl) (Take.cons _ _ _ _ _ Rem.p0 (Take.nil _)) ?_
 exact GoP.done (hQ)
 intro hQ
 rintro _ rfl
 refine GoP.oneN rfl (ps_load rfl At.p0 At.p0 (idx_lt c76) rfl rfl) (Take.nil _) ?_
 refine GoP.qN rfl (ps_indexAddr0 rfl rfl c77 rfl) ?_
 refine GoP.one1 rfl trivial (ef_store rfl rfl rfl At.p0 (upd_row1 (v := (l37.getD x65.toNat (0 : Int))) rfl) (idx_lt c77) rfl) (Take.cons _ _ _ _ _ Rem.p0 (Take.nil _)) ?_
 refine GoP.qN rfl (ps_indexAddr0 rfl rfl c76 rfl) ?_
 refine GoP.one1 rfl trivial (ef_store rfl rfl rfl At.p0 (upd_row1 (v := (l37.getD x51.toNat (0 : Int))) rfl) (lt_len (idx_lt c76) (by first | rfl | omega | (simp only [row_len, gridC_len, rowO_len, List.length_set] <;> first | rfl | omega))) rfl) (Take.cons _ _ _ _ _ Rem.p0 (Take.nil _)) ?_
 refine GoP.done (GoK.le ?_ (hQ))
 refine Le.ofDW ?_ (TkD.cons _ _ _ _ _ Rem.p0 (HLe.refl _) (TkD.nil _))
 repeat (first | exact EnvLeW.nil | refine EnvLeW.cons rfl ?_ | refine EnvLeW.skip rfl ?_)
 refine GoK.code ?_
 refine GoC.seq ?_
 refine GoC.region ?_
 refine GoO.pure (ps_move rfl rfl) ?_
 have c78 := ck_l H; replace H := ck_r H
 refine GoO.pure (ps_add rfl rfl rfl c78) ?_
 refine GoO.pure (ps_assign rfl rfl) ?_
 refine GoO.nil ?_
 refine GoK.code ?_
 refine GoC.region ?_
 refine GoO.pure (ps_move rfl rfl) ?_
 have c79 := ck_l H; replace H := ck_r H
 refine GoO.pure (ps_sub rfl rfl rfl c79) ?_
 refine GoO.pure (ps_assign rfl rfl) ?_
 refine GoO.nil ?_
 refine GoK.blk ?_
 obtain rfl := Option.some.inj H
 exact GoK.againJ m46' (by omega) ⟨_, _, _, hF41, rfl, rfl⟩ (EnvD.cons rfl (DLe.len (by first | rfl | omega | (simp only [row_len, gridC_len, rowO_len, List.length_set] <;> first | rfl | omega))) (EnvD.eq rfl (EnvD.eq rfl (EnvD.eq rfl (EnvD.nil))))) (TkD.cons _ _ _ _ _ Rem.p0 (HLe.refl _) (TkD.nil _))
 rintro v h ⟨l43, x44, x45, rfl, rfl, rfl⟩
 have H := HK40; clear HK40
 refine GoK.code ?_
 refine GoC.seq ?_
 refine GoC.drawP (.q 0 (.q 1 (.q 2 (.q 3 (.q 4 (.q 5 (.q 6 (.q 8 (.q 9 (.q 10 (.two 7 11 (.one 11 (.q 12 (.one 13 (.q 14 (.one 15 (.done)))))) (.one 7 (.q 12 (.one 13 (.q 14 (.one 15 (.done))))))))))))))))) [] follows (by kernel_rfl) (Take.nil _) ?_
 refine GoP.qN rfl (ps_move rfl rfl) ?_
 refine GoP.qN rfl (ps_move rfl rfl) ?_
 refine GoP.qN rfl (ps_move rfl rfl) ?_
 refine GoP.qN rfl (ps_move rfl rfl) ?_
 refine GoP.qN rfl (ps_move rfl rfl) ?_
 refine GoP.qN rfl (ps_move rfl rfl) ?_
 have c81 := ck_l H; replace H := ck_r H
 refine GoP.qN rfl (ps_indexAddr0 rfl rfl c81 rfl) ?_
 refine GoP.qN rfl (ps_move rfl rfl) ?_
 refine GoP.qN rfl (ps_move rfl rfl) ?_
 have c82 := ck_l H; replace H := ck_r H
 refine GoP.qN rfl (ps_indexAddr0 rfl rfl c82 rfl) ?_
 apply GoP.fork0
 exact rfl
 exact rfl
 exact trivial
 exact trivial
 exact Eff.pure (H1 := [.one βp0 3 1 (row l43)]) (ps_load rfl At.p0 At.p0 (idx_lt c81) rfl rfl)
 exact Eff.pure (H1 := [.one βp0 3 1 (row l43)]) (ps_load rfl At.p0 At.p0 (idx_lt c82) rfl rfl)
 exact (Take.nil _)
 exact (Take.nil _)
 intro hQ
 rintro _ rfl
 refine GoP.oneN rfl (ps_load rfl At.p0 At.p0 (idx_lt c82) rfl rfl) (Take.nil _) ?_
 refine GoP.qN rfl (ps_indexAddr0 rfl rfl c82 rfl) ?_
 refine GoP.one1 rfl trivial (ef_store rfl rfl rfl At.p0 (upd_row1 (v := (l43.getD p1.toNat (0 : Int))) rfl) (idx_lt c82) rfl) (Take.cons _ _ _ _ _ Rem.p0 (Take.nil _)) ?_
 refine GoP.qN rfl (ps_indexAddr0 rfl rfl c81 rfl) ?_
 refine GoP.one1 rfl trivial (ef_store rfl rfl rfl At.p0 (upd_row1 (v := (l43.getD x45.toNat (0 : Int))) rfl) (lt_len (idx_lt c81) (by first | rfl | omega | (simp only [row_len, gridC_len, rowO_len, List.length_set] <;> first | rfl | omega))) rfl) (Take.cons _ _ _ _ _ Rem.p0 (Take.nil _)) ?_
 exact GoP.done (hQ)
 intro hQ
 rintro _ rfl
 refine GoP.oneN rfl (ps_load rfl At.p0 At.p0 (idx_lt c81) rfl rfl) (Take.nil _) ?_
 refine GoP.qN rfl (ps_indexAddr0 rfl rfl c82 rfl) ?_
 refine GoP.one1 rfl trivial (ef_store rfl rfl rfl At.p0 (upd_row1 (v := (l43.getD p1.toNat (0 : Int))) rfl) (idx_lt c82) rfl) (Take.cons _ _ _ _ _ Rem.p0 (Take.nil _)) ?_
 refine GoP.qN rfl (ps_indexAddr0 rfl rfl c81 rfl) ?_
 refine GoP.one1 rfl trivial (ef_store rfl rfl rfl At.p0 (upd_row1 (v := (l43.getD x45.toNat (0 : Int))) rfl) (lt_len (idx_lt c81) (by first | rfl | omega | (simp only [row_len, gridC_len, rowO_len, List.length_set] <;> first | rfl | omega))) rfl) (Take.cons _ _ _ _ _ Rem.p0 (Take.nil _)) ?_
 refine GoP.done (GoK.le ?_ (hQ))
 refine Le.ofDW ?_ (TkD.cons _ _ _ _ _ Rem.p0 (HLe.refl _) (TkD.nil _))
 repeat (first | exact EnvLeW.nil | refine EnvLeW.cons rfl ?_ | refine EnvLeW.skip rfl ?_)
 refine GoK.code ?_
 refine GoC.seq ?_
 refine GoC.region ?_
 refine GoO.pure (ps_move rfl rfl) ?_
 refine GoO.pure (ps_assign rfl rfl) ?_
 refine GoO.pure (ps_assign rfl rfl) ?_
 refine GoO.nil ?_
 refine GoK.code ?_
 obtain rfl := Option.some.inj H
 exact GoC.retL (ds := [.v (.int .i64 x45), .v (.bool false)]) Try.results87 (ResL.cons (ResD.tmp rfl) (ResL.cons (ResD.tmp rfl) (ResL.nil))) (Take.cons _ _ _ _ _ Rem.p0 (Take.nil _)) ⟨rfl, rfl⟩

def slices_pdqsortOrdered_int_B1 (p0 : (List Int)) (p1 : Int) (p2 : Int) (p3 : Int) : Unit → Option (Ct (Unit) ((List Int))) := fun _ =>
 ck (InI (p2 - p1)) <|
 if (p2 - p1) ≤ 12 then
  (slices_insertionSortOrdered_int_F p0 p1 p2).bind fun l7 =>
  ck (l7.length = p0.length) <|
  some (.ret l7)
 else
  if p3 = 0 then
   (slices_heapSortOrdered_int_F p0 p1 p2).bind fun l11 =>
   ck (l11.length = p0.length) <|
   some (.ret l11)
  else
   ((
    some ()) : Option (Unit)).bind fun () =>
   none
def slices_pdqsortOrdered_int_S (rec : (List Int) → Int → Int → Int → Option ((List Int))) (p0 : (List Int)) (p1 : Int) (p2 : Int) (p3 : Int) : Option ((List Int)) :=
 (loopC (slices_pdqsortOrdered_int_B1 p0 p1 p2 p3) 1000000 ()).bind fun q => match q with
 | .go _ =>
  none
 | .ret x => some x
def slices_pdqsortOrdered_int_F : Nat → (List Int) → Int → Int → Int → Option ((List Int))
 | 0 => fun _ _ _ _ => none
 | fuel + 1 => slices_pdqsortOrdered_int_S (slices_pdqsortOrdered_int_F fuel)
def slices_pdqsortOrdered_int_P (out : (List Int)) (βp0 : BK) (d : D) (H : List HL) : Prop := d = .tp 0 (nth []) ∧ H = [.one βp0 3 1 (row out)]
theorem slices_pdqsortOrdered_int_I (out : (List Int)) (βp0 : BK) : IndepP (slices_pdqsortOrdered_int_P out βp0) := IndepP.of (by rintro _ _ ⟨rfl, rfl⟩; exact ⟨inferInstance, inferInstance⟩)
set_option maxRecDepth 100000 in
set_option maxHeartbeats 4000000 in
theorem slices_pdqsortOrdered_int_spec : ∀ (fuel : Nat) (p0 : (List Int)) (p1 : Int) (p2 : Int) (p3 : Int) (βp0 : BK) {out : (List Int)} (H : slices_pdqsortOrdered_int_F fuel p0 p1 p2 p3 = some out), Does Try.prog 66 [.own βp0 1 0 p0.length, .v (.int .i64 p1), .v (.int .i64 p2), .v (.int .i64 p3)] [.one βp0 3 1 (row p0)] (slices_pdqsortOrdered_int_P out βp0) := by
 intro fuel
 induction fuel with
 | zero => intro p0 p1 p2 p3 βp0 out H; cases H
 | succ fuel ih =>
 intro p0 p1 p2 p3 βp0 out H
 replace H : slices_pdqsortOrdered_int_S (slices_pdqsortOrdered_int_F fuel) p0 p1 p2 p3 = some out := H
 generalize slices_pdqsortOrdered_int_F fuel = rec at ih H
 unfold slices_pdqsortOrdered_int_S at H
 refine Does.intro Try.func66 rfl Try.ntmps66 rfl fun w0 I0 => ?_
 refine GoC.seq ?_
 refine GoC.region ?_
 refine GoO.pure (ps_assign rfl rfl) ?_
 refine GoO.nil ?_
 refine GoK.code ?_
 refine GoC.seq ?_
 refine GoC.region ?_
 refine GoO.pure (ps_assign rfl rfl) ?_
 refine GoO.nil ?_
 refine GoK.code ?_
 have hb := bind_l H; clear H
 obtain ⟨q3, hl16, HK1⟩ := hb
 refine GoC.blockJ [] [.one βp0 3 1 (row p0)] (fun v h => q3 = .go () ∧ v = [] ∧ h = []) ?_ ?_
 refine GoC.loopJ [(0, _), (1, _), (2, _), (3, _), (8, _), (9, _)] [.one βp0 3 1 (row p0)] (fun mQ v h => loopC (slices_pdqsortOrdered_int_B1 p0 p1 p2 p3) mQ () = some q3 ∧ v = [] ∧ h = []) 1000000 ⟨hl16, rfl, rfl⟩ (EnvD.eq rfl (EnvD.eq rfl (EnvD.eq rfl (EnvD.eq rfl (EnvD.eq rfl (EnvD.eq rfl (EnvD.nil))))))) (TkD.cons _ _ _ _ _ Rem.p0 (HLe.refl _) (TkD.nil _)) ?_
 rintro m4 v h ⟨hF2, rfl, rfl⟩
 obtain ⟨m4', rfl⟩ | rfl : (∃ x, m4 = x + 1) ∨ m4 = 0 := by cases m4 <;> simp
 case inr => cases hF2
 have hb := bind_l hF2; clear hF2
 obtain ⟨qrm4, H, hF2⟩ := hb
 refine GoC.block ?_
 refine GoC.seq ?_
 refine GoC.region ?_
 refine GoO.pure (ps_move rfl rfl) ?_
 refine GoO.pure (ps_move rfl rfl) ?_
 have c5 := ck_l H; replace H := ck_r H
 refine GoO.pure (ps_sub rfl rfl rfl c5) ?_
 refine GoO.pure (ps_assign rfl rfl) ?_
 refine GoO.nil ?_
 refine GoK.code ?_
 refine GoC.seq ?_
 refine GoC.seq ?_
 refine GoC.region ?_
 refine GoO.pure (ps_move rfl rfl) ?_
 refine GoO.pure (ps_leq rfl rfl rfl) ?_
 refine GoO.nil ?_
 refine GoK.code ?_
 refine GoC.condD rfl (fun h6 => ?_) (fun h6 => ?_)
 replace H := ite_t h6 H
 refine GoC.seq ?_
 refine GoC.region ?_
 refine GoO.pure (ps_move rfl rfl) ?_
 refine GoO.pure (ps_move rfl rfl) ?_
 refine GoO.pure (ps_move rfl rfl) ?_
 have hb := bind_l H; clear H
 obtain ⟨l7, e8, H⟩ := hb
 have c9 := ck_l H; replace H := ck_r H
 refine GoO.effC (ef_call rfl (Take.cons _ _ _ _ _ Rem.p0 (Take.nil _)) (Take.nil _) (slices_insertionSortOrdered_int_spec p0 p1 p2 βp0 e8) (LendL.cons (Lend.refl _ _) (LendL.cons (Lend.refl _ _) (LendL.cons (Lend.refl _ _) (LendL.nil)))) rfl (slices_insertionSortOrdered_int_I (l7) βp0)) (fun rr HH hp => ?_)
 obtain ⟨rfl, rfl⟩ := hp
 refine GoO.nil ?_
 refine GoK.code ?_
 obtain rfl := Option.some.inj H
 obtain rfl := Option.some.inj hF2
 obtain rfl := Option.some.inj HK1
 exact GoC.retL (ds := []) Try.results66 (ResL.nil) (Take.cons _ _ _ _ _ Rem.p0 (Take.nil _)) ⟨rfl, rfl⟩
 replace H := ite_f h6 H
 refine GoC.skip ?_
 refine GoK.code ?_
 refine GoC.seq ?_
 refine GoC.seq ?_
 refine GoC.region ?_
 refine GoO.pure (ps_move rfl rfl) ?_
 refine GoO.pure (ps_eql rfl rfl rfl) ?_
 refine GoO.nil ?_
 refine GoK.code ?_
 refine GoC.condD rfl (fun h10 => ?_) (fun h10 => ?_)
 replace H := ite_t h10 H
 refine GoC.seq ?_
 refine GoC.region ?_
 refine GoO.pure (ps_move rfl rfl) ?_
 refine GoO.pure (ps_move rfl rfl) ?_
 refine GoO.pure (ps_move rfl rfl) ?_
 have hb := bind_l H; clear H
 obtain ⟨l11, e12, H⟩ := hb
 have c13 := ck_l H; replace H := ck_r H
 refine GoO.effC (ef_call rfl (Take.cons _ _ _ _ _ Rem.p0 (Take.nil _)) (Take.nil _) (slices_heapSortOrdered_int_spec p0 p1 p2 βp0 e12) (LendL.cons (Lend.refl _ _) (LendL.cons (Lend.refl _ _) (LendL.cons (Lend.refl _ _) (LendL.nil)))) rfl (slices_heapSortOrdered_int_I (l11) βp0)) (fun rr HH hp => ?_)
 obtain ⟨rfl, rfl⟩ := hp
 refine GoO.nil ?_
 refine GoK.code ?_
 obtain rfl := Option.some.inj H
 obtain rfl := Option.some.inj hF2
 obtain rfl := Option.some.inj HK1
 exact GoC.retL (ds := []) Try.results66 (ResL.nil) (Take.cons _ _ _ _ _ Rem.p0 (Take.nil _)) ⟨rfl, rfl⟩
 replace H := ite_f h10 H
 refine GoC.skip ?_
 refine GoK.code ?_
 have hb := bind_l H; clear H
 obtain ⟨⟨⟩, H, HK14⟩ := hb
 refine GoC.seqJ [(0, .own βp0 1 0 p0.length), (1, .v (.int .i64 p1)), (2, .v (.int .i64 p2)), (3, .v (.int .i64 p3)), (8, .v (.bool true)), (9, .v (.bool true)), (10, .v (.int .i64 (p2 - p1)))] [.one βp0 3 1 (row p0)] (fun v h => v = [] ∧ h = []) ?_ ?_
 refine GoC.seq ?_
 refine GoC.region ?_
 refine GoO.pure (ps_move rfl rfl) ?_
 refine GoO.pure (ps_not rfl rfl) ?_
 refine GoO.nil ?_
 refine GoK.code ?_
 refine GoC.condF rfl ?_
 refine GoC.skip ?_
 cases H
 exact GoK.meet ⟨rfl, rfl⟩ (EnvD.eq rfl (EnvD.eq rfl (EnvD.eq rfl (EnvD.eq rfl (EnvD.eq rfl (EnvD.eq rfl (EnvD.eq rfl (EnvD.nil)))))))) (TkD.cons _ _ _ _ _ Rem.p0 (HLe.refl _) (TkD.nil _))
 rintro v h ⟨rfl, rfl⟩
 have H := HK14; clear HK14
 refine GoC.seq ?_
 refine GoC.region ?_
 refine GoO.pure (ps_move rfl rfl) ?_
 refine GoO.pure (ps_move rfl rfl) ?_
 refine GoO.pure (ps_move rfl rfl) ?_
 cases H
 rintro v h ⟨rfl, rfl, rfl⟩
 have H := HK1; clear HK1
 cases H

def slices_Sort_int_F (p0 : (List Int)) : Option ((List Int)) :=
 (bits_Len_F (IntKind.u64.wrap ((p0.length : Nat) : Int))).bind fun r2 =>
 (slices_pdqsortOrdered_int_F 100 p0 0 ((p0.length : Nat) : Int) r2).bind fun l4 =>
 ck (l4.length = p0.length) <|
 some l4
def slices_Sort_int_P (out : (List Int)) (βp0 : BK) (d : D) (H : List HL) : Prop := d = .tp 0 (nth []) ∧ H = [.one βp0 3 1 (row out)]
theorem slices_Sort_int_I (out : (List Int)) (βp0 : BK) : IndepP (slices_Sort_int_P out βp0) := IndepP.of (by rintro _ _ ⟨rfl, rfl⟩; exact ⟨inferInstance, inferInstance⟩)
set_option maxRecDepth 100000 in
set_option maxHeartbeats 4000000 in
theorem slices_Sort_int_spec (p0 : (List Int)) (βp0 : BK) {out : (List Int)} (H : slices_Sort_int_F p0 = some out) : Does Try.prog 37 [.own βp0 1 0 p0.length] [.one βp0 3 1 (row p0)] (slices_Sort_int_P out βp0) := by
 unfold slices_Sort_int_F at H
 refine Does.intro Try.func37 rfl Try.ntmps37 rfl fun w0 I0 => ?_
 refine GoC.seq ?_
 refine GoC.region ?_
 refine GoO.pure (ps_move rfl rfl) ?_
 refine GoO.pure (ps_len rfl (by constructor) rfl) ?_
 refine GoO.lenLe (n := p0.length) (x := .tmp 3) rfl (by constructor) own_lenLe (fun ml1 => ?_)
 refine GoO.pure (ps_assign rfl rfl) ?_
 refine GoO.nil ?_
 refine GoK.code ?_
 refine GoC.region ?_
 refine GoO.pure (ps_move rfl rfl) ?_
 refine GoO.pure (ps_move rfl rfl) ?_
 refine GoO.pure (ps_move rfl rfl) ?_
 refine GoO.pure (ps_convK rfl rfl) ?_
 have hb := bind_l H; clear H
 obtain ⟨r2, e3, H⟩ := hb
 refine GoO.effC (ef_call rfl (Take.nil _) (Take.nil _) (bits_Len_spec (IntKind.u64.wrap ((p0.length : Nat) : Int)) e3) (LendL.cons (Lend.refl _ _) (LendL.nil)) rfl (bits_Len_I (r2))) (fun rr HH hp => ?_)
 obtain ⟨rfl, rfl⟩ := hp
 have hb := bind_l H; clear H
 obtain ⟨l4, e5, H⟩ := hb
 have c6 := ck_l H; replace H := ck_r H
 refine GoO.effC (ef_call rfl (Take.cons _ _ _ _ _ Rem.p0 (Take.nil _)) (Take.nil _) (slices_pdqsortOrdered_int_spec 100 p0 0 ((p0.length : Nat) : Int) r2 βp0 e5) (LendL.cons (Lend.refl _ _) (LendL.cons (Lend.refl _ _) (LendL.cons (Lend.refl _ _) (LendL.cons (Lend.refl _ _) (LendL.nil))))) rfl (slices_pdqsortOrdered_int_I (l4) βp0)) (fun rr HH hp => ?_)
 obtain ⟨rfl, rfl⟩ := hp
 refine GoO.nil ?_
 obtain rfl := Option.some.inj H
 exact GoK.retL (ds := []) Try.results37 (ResL.nil) (Take.cons _ _ _ _ _ Rem.p0 (Take.nil _)) ⟨rfl, rfl⟩

def slices_Grow_intL_F (n_ : Int) : Option ((List (List Int))) :=
 ((
  if n_ < 0 then
   none
  else
   some ()) : Option (Unit)).bind fun () =>
 ck (InI (0 - 0)) <|
 ck (InI (n_ - (0 - 0))) <|
 if 0 < (n_ - (0 - 0)) then
  ck (1 ≤ (n_ - (0 - 0)) ∧ (n_ - (0 - 0)) ≤ 10000000000) <|
  some (subl (List.replicate ((n_ - (0 - 0)).toNat) []) 0 0)
 else
  some []
def slices_Grow_intL_P (out : (List (List Int))) (d : D) (H : List HL) : Prop := ∃ β1 : BK, d = .own β1 1 0 out.length ∧ H = [.one β1 30 1 (row out)]
set_option maxRecDepth 100000 in
set_option maxHeartbeats 4000000 in
theorem slices_Grow_intL_spec (n_ : Int) {out : (List (List Int))} (H : slices_Grow_intL_F n_ = some out) : Does Try.prog 45 [.v (.slice none 0 0), .v (.int .i64 n_)] [] (slices_Grow_intL_P out) := by
 unfold slices_Grow_intL_F at H
 refine Does.intro Try.func45 rfl Try.ntmps45 rfl fun w0 I0 => ?_
 refine GoC.seq ?_
 refine GoC.region ?_
 refine GoO.pure (ps_assign rfl rfl) ?_
 refine GoO.nil ?_
 refine GoK.code ?_
 have hb := bind_l H; clear H
 obtain ⟨⟨⟩, H, HK1⟩ := hb
 refine GoC.seqJ [(0, .v (.slice none 0 0)), (1, .v (.int .i64 n_))] [] (fun v h => v = [] ∧ h = []) ?_ ?_
 refine GoC.seq ?_
 refine GoC.region ?_
 refine GoO.pure (ps_move rfl rfl) ?_
 refine GoO.pure (ps_lss rfl rfl rfl) ?_
 refine GoO.nil ?_
 refine GoK.code ?_
 refine GoC.condD rfl (fun h3 => ?_) (fun h3 => ?_)
 replace H := ite_t h3 H
 cases H
 replace H := ite_f h3 H
 refine GoC.skip ?_
 cases H
 exact GoK.meet ⟨rfl, rfl⟩ (EnvD.eq rfl (EnvD.eq rfl (EnvD.nil))) (TkD.nil _)
 rintro v h ⟨rfl, rfl⟩
 have H := HK1; clear HK1
 refine GoC.seq ?_
 refine GoC.seq ?_
 refine GoC.region ?_
 refine GoO.pure (ps_move rfl rfl) ?_
 refine GoO.pure (ps_move rfl rfl) ?_
 refine GoO.pure (ps_capNil rfl rfl) ?_
 refine GoO.pure (ps_move rfl rfl) ?_
 refine GoO.pure (ps_len rfl (by constructor) rfl) ?_
 have c4 := ck_l H; replace H := ck_r H
 refine GoO.pure (ps_sub rfl rfl rfl c4) ?_
 have c5 := ck_l H; replace H := ck_r H
 refine GoO.pure (ps_sub rfl rfl rfl c5) ?_
 refine GoO.pure (ps_assign rfl rfl) ?_
 refine GoO.nil ?_
 refine GoK.code ?_
 refine GoC.seq ?_
 refine GoC.region ?_
 refine GoO.pure (ps_move rfl rfl) ?_
 refine GoO.pure (ps_gtr rfl rfl rfl) ?_
 refine GoO.nil ?_
 refine GoK.code ?_
 refine GoC.condD rfl (fun h6 => ?_) (fun h6 => ?_)
 replace H := ite_t h6 H
 refine GoC.region ?_
 refine GoO.pure (ps_move rfl rfl) ?_
 refine GoO.pure (ps_move rfl rfl) ?_
 refine GoO.pure (ps_capNil rfl rfl) ?_
 refine GoO.pure (ps_sliceNil rfl rfl rfl) ?_
 refine GoO.pure (ps_move rfl rfl) ?_
 have c8 := ck_l H; replace H := ck_r H
 refine GoO.effB (ef_appendZ rfl rfl c8 rfl rfl rfl) (fun β7 => ?_)
 refine GoO.le (Le.reH At.p0 (HLe.zeros (α := (List Int)) ⟨trivial, DLe.nilSl⟩)) ?_
 refine GoO.pure (ps_move rfl rfl) ?_
 refine GoO.pure (ps_len rfl (by constructor) rfl) ?_
 refine GoO.pure (ps_slice rfl (Bd.no _) (Bd.nat _ _ 0 _ rfl) (Nat.zero_le _) (Nat.zero_le _) rfl) ?_
 refine GoO.le (Le.shift At.p0 (by first | omega | (simp only [subl_length, cpl_length, List.length_set, List.length_append, List.length_cons, List.length_nil, List.length_replicate, row_len]; omega) | (simp only [subl_length, cpl_length, List.length_set, List.length_append, List.length_cons, List.length_nil, List.length_replicate, row_len, eldI]; omega))) ?_
 refine GoO.le (Le.reH At.p0 (HLe.part (xs := (List.replicate ((n_ - (0 - 0)).toNat) [])) (r := 0 + 0) (len := 0) (by first | omega | (simp only [subl_length, cpl_length, List.length_set, List.length_append, List.length_cons, List.length_nil, List.length_replicate, row_len]; omega)))) ?_
 generalize (⟨β7.b, β7.o + (0 + 0) * 1, β7.s - (0 + 0)⟩ : BK) = β9
 refine GoO.pure (ps_assign rfl rfl) ?_
 refine GoO.nil ?_
 refine GoK.code ?_
 refine GoC.seq ?_
 refine GoC.region ?_
 refine GoO.pure (ps_move rfl rfl) ?_
 refine GoO.pure (ps_assign rfl rfl) ?_
 refine GoO.nil ?_
 refine GoK.code ?_
 obtain rfl := Option.some.inj H
 exact GoC.retL (ds := [.own β9 1 0 (subl (List.replicate ((n_ - (0 - 0)).toNat) []) 0 0).length]) Try.results45 (ResL.cons (ResD.le (ResD.tmp rfl) (by exact DLe.len (by first | rfl | omega | (simp only [row_len, gridC_len, rowO_len, List.length_cons, List.length_nil, List.length_replicate, List.length_nil, subl_length] <;> first | rfl | omega)))) (ResL.nil)) (Take.cons _ _ _ _ _ Rem.p0 (Take.nil _)) ⟨β9, rfl, rfl⟩
 replace H := ite_f h6 H
 refine GoC.skip ?_
 refine GoK.code ?_
 refine GoC.seq ?_
 refine GoC.region ?_
 refine GoO.pure (ps_move rfl rfl) ?_
 refine GoO.pure (ps_assign rfl rfl) ?_
 refine GoO.nil ?_
 refine GoK.code ?_
 obtain rfl := Option.some.inj H
 refine GoC.le (le_row0 30 1 (row ([] : List (List Int))) rfl) ?_
 exact GoC.retL (ds := [.own ⟨0, 0, 0⟩ 1 0 0]) Try.results45 (ResL.cons (ResD.le (ResD.tmp rfl) (by exact DLe.nilOwn)) (ResL.nil)) (Take.cons _ _ _ _ _ Rem.p0 (Take.nil _)) ⟨⟨0, 0, 0⟩, rfl, rfl⟩

def slices_Concat_intL_B1 (ss_ : (List (List (List Int)))) : Nat → Nat → Option (Nat) := fun k7 n2 =>
 ck (InI (((n2 : Nat) : Int) + (((ss_.getD k7 []).length : Nat) : Int))) <|
 if (((n2 + (ss_.getD k7 []).length) : Nat) : Int) < 0 then
  none
 else
  some (n2 + (ss_.getD k7 []).length)
def slices_Concat_intL_B2 (ss_ : (List (List (List Int)))) : Nat → (List (List Int)) → Option ((List (List Int))) := fun k22 l17 =>
 ck (l17.length + (ss_.getD k22 []).length ≤ 5864062014805) <|
 some (l17 ++ (ss_.getD k22 []))
def slices_Concat_intL_F (ss_ : (List (List (List Int)))) : Option ((List (List Int))) :=
 (forN (slices_Concat_intL_B1 ss_) ss_.length 0 0).bind fun n6 =>
 (slices_Grow_intL_F ((n6 : Nat) : Int)).bind fun r13 =>
 (forN (slices_Concat_intL_B2 ss_) ss_.length 0 r13).bind fun l21 =>
 some l21
def slices_Concat_intL_P (out : (List (List Int))) (d : D) (H : List HL) : Prop := ∃ β1 : BK, d = .own β1 1 0 out.length ∧ H = [.one β1 30 1 (row out)]
set_option maxRecDepth 100000 in
set_option maxHeartbeats 4000000 in
theorem slices_Concat_intL_spec (ss_ : (List (List (List Int)))) {out : (List (List Int))} (H : slices_Concat_intL_F ss_ = some out) : Does Try.prog 19 [slD ss_] [] (slices_Concat_intL_P out) := by
 unfold slices_Concat_intL_F at H
 refine Does.intro Try.func19 rfl Try.ntmps19 rfl fun w0 I0 => ?_
 refine GoC.seq ?_
 refine GoC.region ?_
 refine GoO.pure (ps_assign rfl rfl) ?_
 refine GoO.nil ?_
 refine GoK.code ?_
 refine GoC.seq ?_
 refine GoC.region ?_
 refine GoO.pure (ps_assign rfl rfl) ?_
 refine GoO.nil ?_
 refine GoK.code ?_
 refine GoC.seq ?_
 refine GoC.seq ?_
 refine GoC.region ?_
 refine GoO.pure (ps_move rfl rfl) ?_
 refine GoO.pure (ps_len rfl (by constructor) rfl) ?_
 refine GoO.lenLe (n := ss_.length) (x := .tmp 9) rfl (by constructor) sl_lenLe (fun ml1 => ?_)
 refine GoO.pure (ps_move rfl rfl) ?_
 refine GoO.nil ?_
 refine GoK.code ?_
 have hb := bind_l H; clear H
 obtain ⟨n6, hl12, HK3⟩ := hb
 refine GoC.blockJ [(0, slD ss_)] [] (fun v h => v = [(3, .v (.int .i64 ((n6 : Nat) : Int)))] ∧ h = []) ?_ ?_
 refine GoC.loopJ [(0, _), (9, _), (10, _)] [] (fun mQ v h => ∃ (k7 : Nat) (n2 : Nat), (k7 + mQ = ss_.length ∧ forN (slices_Concat_intL_B1 ss_) mQ k7 n2 = some n6) ∧ v = [(11, .v (.int .i64 ((k7 : Nat) : Int))), (3, .v (.int .i64 ((n2 : Nat) : Int)))] ∧ h = []) ss_.length ⟨_, _, ⟨by omega, hl12⟩, rfl, rfl⟩ (EnvD.eq rfl (EnvD.eq rfl (EnvD.eq rfl (EnvD.eq rfl (EnvD.eq rfl (EnvD.nil)))))) (TkD.nil _) ?_
 rintro m8 v h ⟨k7, n2, ⟨hkk7, hF4⟩, rfl, rfl⟩
 refine GoC.seq ?_
 refine GoC.region ?_
 refine GoO.pure (ps_lss rfl rfl rfl) ?_
 refine GoO.nil ?_
 refine GoK.code ?_
 refine GoC.seq ?_
 refine GoC.condD rfl (fun (hk7 : (k7 : Int) < ((ss_.length : Nat) : Int)) => ?_) (fun (hk7 : ¬ (k7 : Int) < ((ss_.length : Nat) : Int)) => ?_)
 obtain ⟨m8', rfl⟩ : ∃ x, m8 = x + 1 := ⟨m8 - 1, by omega⟩
 have hb := bind_l hF4; clear hF4
 obtain ⟨qrm8, H, hF4⟩ := hb
 have hnk7 : k7 < ss_.length := by omega
 have hIk7 : InI ((k7 : Int) + 1) := inI_len hk7 ml1
 refine GoC.skip ?_
 refine GoK.code ?_
 refine GoC.seq ?_
 refine GoC.block ?_
 refine GoC.seq ?_
 refine GoC.region ?_
 refine GoO.pure (ps_indexAddrRN rfl rfl hnk7 rfl) ?_
 refine GoO.pure (ps_loadR rfl hnk7 rfl rfl) ?_
 refine GoO.pure (ps_assign rfl rfl) ?_
 refine GoO.nil ?_
 refine GoK.code ?_
 refine GoC.seq ?_
 refine GoC.region ?_
 refine GoO.pure (ps_move rfl rfl) ?_
 refine GoO.pure (ps_move rfl rfl) ?_
 refine GoO.pure (ps_len rfl (by constructor) rfl) ?_
 refine GoO.lenLe (n := (ss_.getD k7 []).length) (x := .tmp 16) rfl (by constructor) sl_lenLe (fun ml9 => ?_)
 have c10 := ck_l H; replace H := ck_r H
 refine GoO.pure (ps_add rfl rfl rfl c10) ?_
 refine GoO.pure (ps_assign rfl rfl) ?_
 refine GoO.nil ?_
 refine GoK.code ?_
 refine GoC.seq ?_
 refine GoC.region ?_
 refine GoO.pure (ps_move rfl rfl) ?_
 refine GoO.pure (ps_lss rfl rfl rfl) ?_
 refine GoO.nil ?_
 refine GoK.code ?_
 refine GoC.condD rfl (fun h11 => ?_) (fun h11 => ?_)
 replace H := ite_t h11 H
 cases H
 replace H := ite_f h11 H
 refine GoC.skip ?_
 refine GoK.blk ?_
 refine GoK.code ?_
 refine GoC.region ?_
 refine GoO.pure (ps_add rfl rfl rfl hIk7) ?_
 refine GoO.pure (ps_move rfl rfl) ?_
 refine GoO.nil ?_
 obtain rfl := Option.some.inj H
 exact GoK.againJ m8' (by omega) ⟨_, _, ⟨by omega, hF4⟩, rfl, rfl⟩ (EnvD.eq rfl (EnvD.eq rfl (EnvD.eq rfl (EnvD.eq rfl (EnvD.eq rfl (EnvD.nil)))))) (TkD.nil _)
 obtain rfl : m8 = 0 := by omega
 refine GoC.exit rfl ?_
 cases hF4
 exact GoK.meet ⟨rfl, rfl⟩ (EnvD.eq rfl (EnvD.eq rfl (EnvD.nil))) (TkD.nil _)
 rintro v h ⟨rfl, rfl⟩
 have H := HK3; clear HK3
 refine GoK.code ?_
 refine GoC.seq ?_
 refine GoC.region ?_
 refine GoO.pure (ps_move rfl rfl) ?_
 have hb := bind_l H; clear H
 obtain ⟨r13, e15, H⟩ := hb
 refine GoO.callF rfl (Take.nil _) (Take.nil _) (slices_Grow_intL_spec ((n6 : Nat) : Int) e15) (LendL.cons (Lend.refl _ _) (LendL.cons (Lend.refl _ _) (LendL.nil))) rfl nil_fps (fun rr HH hp => ?_)
 obtain ⟨β14, rfl, rfl⟩ := hp
 refine GoO.pure (ps_assign rfl rfl) ?_
 refine GoO.nil ?_
 refine GoK.code ?_
 refine GoC.seq ?_
 refine GoC.seq ?_
 refine GoC.region ?_
 refine GoO.pure (ps_move rfl rfl) ?_
 refine GoO.pure (ps_len rfl (by constructor) rfl) ?_
 refine GoO.pure (ps_move rfl rfl) ?_
 refine GoO.nil ?_
 refine GoK.code ?_
 have hb := bind_l H; clear H
 obtain ⟨l21, hl26, HK18⟩ := hb
 refine GoC.blockJ [] [] (fun v h => ∃ (β16 : BK), v = [(6, .own β16 1 0 l21.length)] ∧ h = [.one β16 30 1 (row l21)]) ?_ ?_
 refine GoC.loopJ [(25, _), (26, _)] [] (fun mQ v h => ∃ (k22 : Nat) (l17 : (List (List Int))) (β16 : BK), (k22 + mQ = ss_.length ∧ forN (slices_Concat_intL_B2 ss_) mQ k22 l17 = some l21) ∧ v = [(27, .v (.int .i64 ((k22 : Nat) : Int))), (6, .own β16 1 0 l17.length)] ∧ h = [.one β16 30 1 (row l17)]) ss_.length ⟨_, _, β14, ⟨by omega, hl26⟩, rfl, rfl⟩ (EnvD.eq rfl (EnvD.cons rfl (DLe.len (by first | rfl | omega | (simp only [row_len, gridC_len, rowO_len] <;> first | rfl | omega))) (EnvD.eq rfl (EnvD.eq rfl (EnvD.nil))))) (TkD.cons _ _ _ _ _ Rem.p0 (HLe.refl _) (TkD.nil _)) ?_
 rintro m23 v h ⟨k22, l17, β16, ⟨hkk22, hF19⟩, rfl, rfl⟩
 refine GoC.seq ?_
 refine GoC.region ?_
 refine GoO.pure (ps_lss rfl rfl rfl) ?_
 refine GoO.nil ?_
 refine GoK.code ?_
 refine GoC.seq ?_
 refine GoC.condD rfl (fun (hk22 : (k22 : Int) < ((ss_.length : Nat) : Int)) => ?_) (fun (hk22 : ¬ (k22 : Int) < ((ss_.length : Nat) : Int)) => ?_)
 obtain ⟨m23', rfl⟩ : ∃ x, m23 = x + 1 := ⟨m23 - 1, by omega⟩
 have hb := bind_l hF19; clear hF19
 obtain ⟨qrm23, H, hF19⟩ := hb
 have hnk22 : k22 < ss_.length := by omega
 have hIk22 : InI ((k22 : Int) + 1) := inI_len hk22 ml1
 refine GoC.skip ?_
 refine GoK.code ?_
 refine GoC.seq ?_
 refine GoC.block ?_
 refine GoC.seq ?_
 refine GoC.region ?_
 refine GoO.pure (ps_indexAddrRN rfl rfl hnk22 rfl) ?_
 refine GoO.pure (ps_loadR rfl hnk22 rfl rfl) ?_
 refine GoO.pure (ps_assign rfl rfl) ?_
 refine GoO.nil ?_
 refine GoK.code ?_
 refine GoC.region ?_
 refine GoO.pure (ps_move rfl rfl) ?_
 refine GoO.pure (ps_move rfl rfl) ?_
 have c25 := ck_l H; replace H := ck_r H
 refine GoO.effB (ef_append rfl rfl Rem.p0 Src.sl (cat_row (α := (List Int)) (by first | rfl | omega | (simp only [subl_length, cpl_length, List.length_set, List.length_append, List.length_cons, List.length_nil, List.length_replicate, row_len] <;> first | rfl | omega)) (by first | rfl | omega | (simp only [subl_length, cpl_length, List.length_set, List.length_append, List.length_cons, List.length_nil, List.length_replicate, row_len] <;> first | rfl | omega)) (fun _ _ _ _ => rfl)) (by first | omega | (simp only [subl_length, cpl_length, List.length_set, List.length_append, List.length_cons, List.length_nil, List.length_replicate, row_len]; omega) | (simp only [subl_length, cpl_length, List.length_set, List.length_append, List.length_cons, List.length_nil, List.length_replicate, row_len]; done)) (app_le c25 rfl) rfl rfl rfl) (fun β24 => ?_)
 refine GoO.pure (ps_assign rfl rfl) ?_
 refine GoO.nil ?_
 refine GoK.blk ?_
 refine GoK.code ?_
 refine GoC.region ?_
 refine GoO.pure (ps_add rfl rfl rfl hIk22) ?_
 refine GoO.pure (ps_move rfl rfl) ?_
 refine GoO.nil ?_
 obtain rfl := Option.some.inj H
 exact GoK.againJ m23' (by omega) ⟨_, _, β24, ⟨by omega, hF19⟩, rfl, rfl⟩ (EnvD.eq rfl (EnvD.cons rfl (DLe.len (by first | rfl | omega | (simp only [row_len, gridC_len, rowO_len, List.length_append, List.length_cons, List.length_nil, List.length_nil] <;> first | rfl | omega))) (EnvD.eq rfl (EnvD.eq rfl (EnvD.nil))))) (TkD.cons _ _ _ _ _ Rem.p0 (HLe.refl _) (TkD.nil _))
 obtain rfl : m23 = 0 := by omega
 refine GoC.exit rfl ?_
 cases hF19
 exact GoK.meet ⟨β16, rfl, rfl⟩ (EnvD.cons rfl (DLe.len (by first | rfl | omega | (simp only [row_len, gridC_len, rowO_len] <;> first | rfl | omega))) (EnvD.nil)) (TkD.cons _ _ _ _ _ Rem.p0 (HLe.refl _) (TkD.nil _))
 rintro v h ⟨β16, rfl, rfl⟩
 have H := HK18; clear HK18
 refine GoK.code ?_
 refine GoC.seq ?_
 refine GoC.region ?_
 refine GoO.pure (ps_move rfl rfl) ?_
 refine GoO.pure (ps_assign rfl rfl) ?_
 refine GoO.nil ?_
 refine GoK.code ?_
 obtain rfl := Option.some.inj H
 exact GoC.retL (ds := [.own β16 1 0 l21.length]) Try.results19 (ResL.cons (ResD.tmp rfl) (ResL.nil)) (Take.cons _ _ _ _ _ Rem.p0 (Take.nil _)) ⟨β16, rfl, rfl⟩

def slices_Index_int_B1 (s_ : (List Int)) (v_ : Int) : Nat → Unit → Option (Ct (Unit) (Int)) := fun k5 _ =>
 if v_ = (s_.getD k5 (0 : Int)) then
  some (.ret ((k5 : Nat) : Int))
 else
  some (.go ())
def slices_Index_int_F (s_ : (List Int)) (v_ : Int) : Option (Int) :=
 (forC (slices_Index_int_B1 s_ v_) s_.length 0 ()).bind fun q => match q with
 | .go _ =>
  some (-1)
 | .ret x => some x
def slices_Index_int_P (out : Int) (d : D) (H : List HL) : Prop := d = .v (.int .i64 out) ∧ H = []
theorem slices_Index_int_I (out : Int) : IndepP (slices_Index_int_P out) := IndepP.of (by rintro _ _ ⟨rfl, rfl⟩; exact ⟨inferInstance, inferInstance⟩)
set_option maxRecDepth 100000 in
set_option maxHeartbeats 4000000 in
theorem slices_Index_int_spec (s_ : (List Int)) (v_ : Int) {out : Int} (H : slices_Index_int_F s_ v_ = some out) : Does Try.prog 40 [slD s_, .v (.int .i64 v_)] [] (slices_Index_int_P out) := by
 unfold slices_Index_int_F at H
 refine Does.intro Try.func40 rfl Try.ntmps40 rfl fun w0 I0 => ?_
 refine GoC.seq ?_
 refine GoC.region ?_
 refine GoO.pure (ps_assign rfl rfl) ?_
 refine GoO.nil ?_
 refine GoK.code ?_
 refine GoC.seq ?_
 refine GoC.seq ?_
 refine GoC.region ?_
 refine GoO.pure (ps_move rfl rfl) ?_
 refine GoO.pure (ps_len rfl (by constructor) rfl) ?_
 refine GoO.lenLe (n := s_.length) (x := .tmp 6) rfl (by constructor) sl_lenLe (fun ml1 => ?_)
 refine GoO.pure (ps_move rfl rfl) ?_
 refine GoO.nil ?_
 refine GoK.code ?_
 have hb := bind_l H; clear H
 obtain ⟨q4, hl8, HK2⟩ := hb
 refine GoC.blockJ [] [] (fun v h => q4 = .go () ∧ v = [] ∧ h = []) ?_ ?_
 refine GoC.loopJ [(0, _), (1, _), (7, _)] [] (fun mQ v h => ∃ (k5 : Nat), (k5 + mQ = s_.length ∧ forC (slices_Index_int_B1 s_ v_) mQ k5 () = some q4) ∧ v = [(8, .v (.int .i64 ((k5 : Nat) : Int)))] ∧ h = []) s_.length ⟨_, ⟨by omega, hl8⟩, rfl, rfl⟩ (EnvD.eq rfl (EnvD.eq rfl (EnvD.eq rfl (EnvD.eq rfl (EnvD.nil))))) (TkD.nil _) ?_
 rintro m6 v h ⟨k5, ⟨hkk5, hF3⟩, rfl, rfl⟩
 refine GoC.seq ?_
 refine GoC.region ?_
 refine GoO.pure (ps_lss rfl rfl rfl) ?_
 refine GoO.nil ?_
 refine GoK.code ?_
 refine GoC.seq ?_
 refine GoC.condD rfl (fun (hk5 : (k5 : Int) < ((s_.length : Nat) : Int)) => ?_) (fun (hk5 : ¬ (k5 : Int) < ((s_.length : Nat) : Int)) => ?_)
 obtain ⟨m6', rfl⟩ : ∃ x, m6 = x + 1 := ⟨m6 - 1, by omega⟩
 have hb := bind_l hF3; clear hF3
 obtain ⟨qrm6, H, hF3⟩ := hb
 have hnk5 : k5 < s_.length := by omega
 have hIk5 : InI ((k5 : Int) + 1) := inI_len hk5 ml1
 refine GoC.skip ?_
 refine GoK.code ?_
 refine GoC.seq ?_
 refine GoC.block ?_
 refine GoC.seq ?_
 refine GoC.region ?_
 refine GoO.pure (ps_move rfl rfl) ?_
 refine GoO.pure (ps_assign rfl rfl) ?_
 refine GoO.nil ?_
 refine GoK.code ?_
 refine GoC.seq ?_
 refine GoC.region ?_
 refine GoO.pure (ps_move rfl rfl) ?_
 refine GoO.pure (ps_move rfl rfl) ?_
 refine GoO.pure (ps_move rfl rfl) ?_
 refine GoO.pure (ps_indexAddrRN rfl rfl hnk5 rfl) ?_
 refine GoO.pure (ps_loadR rfl hnk5 rfl rfl) ?_
 refine GoO.pure (ps_eql rfl rfl rfl) ?_
 refine GoO.nil ?_
 refine GoK.code ?_
 refine GoC.condD rfl (fun h7 => ?_) (fun h7 => ?_)
 replace H := ite_t h7 H
 refine GoC.seq ?_
 refine GoC.region ?_
 refine GoO.pure (ps_move rfl rfl) ?_
 refine GoO.pure (ps_assign rfl rfl) ?_
 refine GoO.nil ?_
 refine GoK.code ?_
 obtain rfl := Option.some.inj H
 obtain rfl := Option.some.inj hF3
 obtain rfl := Option.some.inj HK2
 exact GoC.retL (ds := [.v (.int .i64 ((k5 : Nat) : Int))]) Try.results40 (ResL.cons (ResD.tmp rfl) (ResL.nil)) (Take.nil _) ⟨rfl, rfl⟩
 replace H := ite_f h7 H
 refine GoC.skip ?_
 refine GoK.blk ?_
 refine GoK.code ?_
 refine GoC.region ?_
 refine GoO.pure (ps_add rfl rfl rfl hIk5) ?_
 refine GoO.pure (ps_move rfl rfl) ?_
 refine GoO.nil ?_
 obtain rfl := Option.some.inj H
 exact GoK.againJ m6' (by omega) ⟨_, ⟨by omega, hF3⟩, rfl, rfl⟩ (EnvD.eq rfl (EnvD.eq rfl (EnvD.eq rfl (EnvD.eq rfl (EnvD.nil))))) (TkD.nil _)
 obtain rfl : m6 = 0 := by omega
 refine GoC.exit rfl ?_
 cases hF3
 exact GoK.meet ⟨rfl, rfl, rfl⟩ (EnvD.nil) (TkD.nil _)
 rintro v h ⟨rfl, rfl, rfl⟩
 have H := HK2; clear HK2
 refine GoK.code ?_
 refine GoC.seq ?_
 refine GoC.region ?_
 refine GoO.pure (ps_assign rfl rfl) ?_
 refine GoO.nil ?_
 refine GoK.code ?_
 obtain rfl := Option.some.inj H
 exact GoC.retL (ds := [.v (.int .i64 (-1))]) Try.results40 (ResL.cons (ResD.tmp rfl) (ResL.nil)) (Take.nil _) ⟨rfl, rfl⟩

def slices_Contains_int_F (s_ : (List Int)) (v_ : Int) : Option (Bool) :=
 (slices_Index_int_F s_ v_).bind fun r1 =>
 some (decide (0 ≤ r1))
def slices_Contains_int_P (out : Bool) (d : D) (H : List HL) : Prop := d = .v (.bool out) ∧ H = []
theorem slices_Contains_int_I (out : Bool) : IndepP (slices_Contains_int_P out) := IndepP.of (by rintro _ _ ⟨rfl, rfl⟩; exact ⟨inferInstance, inferInstance⟩)
set_option maxRecDepth 100000 in
set_option maxHeartbeats 4000000 in
theorem slices_Contains_int_spec (s_ : (List Int)) (v_ : Int) {out : Bool} (H : slices_Contains_int_F s_ v_ = some out) : Does Try.prog 15 [slD s_, .v (.int .i64 v_)] [] (slices_Contains_int_P out) := by
 unfold slices_Contains_int_F at H
 refine Does.intro Try.func15 rfl Try.ntmps15 rfl fun w0 I0 => ?_
 refine GoC.seq ?_
 refine GoC.region ?_
 refine GoO.pure (ps_assign rfl rfl) ?_
 refine GoO.nil ?_
 refine GoK.code ?_
 refine GoC.seq ?_
 refine GoC.region ?_
 refine GoO.pure (ps_move rfl rfl) ?_
 refine GoO.pure (ps_move rfl rfl) ?_
 have hb := bind_l H; clear H
 obtain ⟨r1, e2, H⟩ := hb
 refine GoO.effC (ef_call rfl (Take.nil _) (Take.nil _) (slices_Index_int_spec s_ v_ e2) (LendL.cons (Lend.refl _ _) (LendL.cons (Lend.refl _ _) (LendL.nil))) rfl (slices_Index_int_I (r1))) (fun rr HH hp => ?_)
 obtain ⟨rfl, rfl⟩ := hp
 refine GoO.pure (ps_geq rfl rfl rfl) ?_
 refine GoO.pure (ps_assign rfl rfl) ?_
 refine GoO.nil ?_
 refine GoK.code ?_
 obtain rfl := Option.some.inj H
 exact GoC.retL (ds := [.v (.bool (decide (0 ≤ r1)))]) Try.results15 (ResL.cons (ResD.tmp rfl) (ResL.nil)) (Take.nil _) ⟨rfl, rfl⟩

def slices_Equal_int_B1 (s1_ : (List Int)) (s2_ : (List Int)) : Nat → Unit → Option (Ct (Unit) (Bool)) := fun k7 _ =>
 ck (k7 < s2_.length) <|
 if (s1_.getD k7 (0 : Int)) ≠ (s2_.getD k7 (0 : Int)) then
  some (.ret false)
 else
  some (.go ())
def slices_Equal_int_F (s1_ : (List Int)) (s2_ : (List Int)) : Option (Bool) :=
 if ((s1_.length : Nat) : Int) ≠ ((s2_.length : Nat) : Int) then
  some false
 else
  (forC (slices_Equal_int_B1 s1_ s2_) s1_.length 0 ()).bind fun q => match q with
  | .go _ =>
   some true
  | .ret x => some x
def slices_Equal_int_P (out : Bool) (d : D) (H : List HL) : Prop := d = .v (.bool out) ∧ H = []
theorem slices_Equal_int_I (out : Bool) : IndepP (slices_Equal_int_P out) := IndepP.of (by rintro _ _ ⟨rfl, rfl⟩; exact ⟨inferInstance, inferInstance⟩)
set_option maxRecDepth 100000 in
set_option maxHeartbeats 4000000 in
theorem slices_Equal_int_spec (s1_ : (List Int)) (s2_ : (List Int)) {out : Bool} (H : slices_Equal_int_F s1_ s2_ = some out) : Does Try.prog 27 [slD s1_, slD s2_] [] (slices_Equal_int_P out) := by
 unfold slices_Equal_int_F at H
 refine Does.intro Try.func27 rfl Try.ntmps27 rfl fun w0 I0 => ?_
 refine GoC.seq ?_
 refine GoC.region ?_
 refine GoO.pure (ps_assign rfl rfl) ?_
 refine GoO.nil ?_
 refine GoK.code ?_
 refine GoC.seq ?_
 refine GoC.seq ?_
 refine GoC.region ?_
 refine GoO.pure (ps_move rfl rfl) ?_
 refine GoO.pure (ps_len rfl (by constructor) rfl) ?_
 refine GoO.lenLe (n := s1_.length) (x := .tmp 6) rfl (by constructor) sl_lenLe (fun ml1 => ?_)
 refine GoO.pure (ps_move rfl rfl) ?_
 refine GoO.pure (ps_len rfl (by constructor) rfl) ?_
 refine GoO.lenLe (n := s2_.length) (x := .tmp 8) rfl (by constructor) sl_lenLe (fun ml2 => ?_)
 refine GoO.pure (ps_neq rfl rfl rfl) ?_
 refine GoO.nil ?_
 refine GoK.code ?_
 refine GoC.condD rfl (fun h3 => ?_) (fun h3 => ?_)
 replace H := ite_t h3 H
 refine GoC.seq ?_
 refine GoC.region ?_
 refine GoO.pure (ps_assign rfl rfl) ?_
 refine GoO.nil ?_
 refine GoK.code ?_
 obtain rfl := Option.some.inj H
 exact GoC.retL (ds := [.v (.bool false)]) Try.results27 (ResL.cons (ResD.tmp rfl) (ResL.nil)) (Take.nil _) ⟨rfl, rfl⟩
 replace H := ite_f h3 H
 refine GoC.skip ?_
 refine GoK.code ?_
 refine GoC.seq ?_
 refine GoC.seq ?_
 refine GoC.region ?_
 refine GoO.pure (ps_move rfl rfl) ?_
 refine GoO.pure (ps_len rfl (by constructor) rfl) ?_
 refine GoO.pure (ps_move rfl rfl) ?_
 refine GoO.nil ?_
 refine GoK.code ?_
 have hb := bind_l H; clear H
 obtain ⟨q6, hl11, HK4⟩ := hb
 refine GoC.blockJ [] [] (fun v h => q6 = .go () ∧ v = [] ∧ h = []) ?_ ?_
 refine GoC.loopJ [(0, _), (1, _), (12, _)] [] (fun mQ v h => ∃ (k7 : Nat), (k7 + mQ = s1_.length ∧ forC (slices_Equal_int_B1 s1_ s2_) mQ k7 () = some q6) ∧ v = [(13, .v (.int .i64 ((k7 : Nat) : Int)))] ∧ h = []) s1_.length ⟨_, ⟨by omega, hl11⟩, rfl, rfl⟩ (EnvD.eq rfl (EnvD.eq rfl (EnvD.eq rfl (EnvD.eq rfl (EnvD.nil))))) (TkD.nil _) ?_
 rintro m8 v h ⟨k7, ⟨hkk7, hF5⟩, rfl, rfl⟩
 refine GoC.seq ?_
 refine GoC.region ?_
 refine GoO.pure (ps_lss rfl rfl rfl) ?_
 refine GoO.nil ?_
 refine GoK.code ?_
 refine GoC.seq ?_
 refine GoC.condD rfl (fun (hk7 : (k7 : Int) < ((s1_.length : Nat) : Int)) => ?_) (fun (hk7 : ¬ (k7 : Int) < ((s1_.length : Nat) : Int)) => ?_)
 obtain ⟨m8', rfl⟩ : ∃ x, m8 = x + 1 := ⟨m8 - 1, by omega⟩
 have hb := bind_l hF5; clear hF5
 obtain ⟨qrm8, H, hF5⟩ := hb
 have hnk7 : k7 < s1_.length := by omega
 have hIk7 : InI ((k7 : Int) + 1) := inI_len hk7 ml1
 refine GoC.skip ?_
 refine GoK.code ?_
 refine GoC.seq ?_
 refine GoC.block ?_
 refine GoC.seq ?_
 refine GoC.region ?_
 refine GoO.pure (ps_move rfl rfl) ?_
 refine GoO.pure (ps_assign rfl rfl) ?_
 refine GoO.nil ?_
 refine GoK.code ?_
 refine GoC.seq ?_
 refine GoC.drawA (.q 0 (.q 1 (.q 2 (.q 3 (.q 4 (.q 5 (.q 6 (.q 7 (.q 8 (.done)))))))))) follows (by kernel_rfl) ?_
 refine GoP.qN rfl (ps_move rfl rfl) ?_
 refine GoP.qN rfl (ps_move rfl rfl) ?_
 refine GoP.qN rfl (ps_indexAddrRN rfl rfl hnk7 rfl) ?_
 refine GoP.qN rfl (ps_loadR rfl hnk7 rfl rfl) ?_
 refine GoP.qN rfl (ps_move rfl rfl) ?_
 refine GoP.qN rfl (ps_move rfl rfl) ?_
 have c9 := ck_l H; replace H := ck_r H
 refine GoP.qN rfl (ps_indexAddrRN rfl rfl c9 rfl) ?_
 refine GoP.qN rfl (ps_loadR rfl c9 rfl rfl) ?_
 refine GoP.qN rfl (ps_neq rfl rfl rfl) ?_
 refine GoP.done ?_
 refine GoK.code ?_
 refine GoC.condD rfl (fun h10 => ?_) (fun h10 => ?_)
 replace H := ite_t h10 H
 refine GoC.seq ?_
 refine GoC.region ?_
 refine GoO.pure (ps_assign rfl rfl) ?_
 refine GoO.nil ?_
 refine GoK.code ?_
 obtain rfl := Option.some.inj H
 obtain rfl := Option.some.inj hF5
 obtain rfl := Option.some.inj HK4
 exact GoC.retL (ds := [.v (.bool false)]) Try.results27 (ResL.cons (ResD.tmp rfl) (ResL.nil)) (Take.nil _) ⟨rfl, rfl⟩
 replace H := ite_f h10 H
 refine GoC.skip ?_
 refine GoK.blk ?_
 refine GoK.code ?_
 refine GoC.region ?_
 refine GoO.pure (ps_add rfl rfl rfl hIk7) ?_
 refine GoO.pure (ps_move rfl rfl) ?_
 refine GoO.nil ?_
 obtain rfl := Option.some.inj H
 exact GoK.againJ m8' (by omega) ⟨_, ⟨by omega, hF5⟩, rfl, rfl⟩ (EnvD.eq rfl (EnvD.eq rfl (EnvD.eq rfl (EnvD.eq rfl (EnvD.nil))))) (TkD.nil _)
 obtain rfl : m8 = 0 := by omega
 refine GoC.exit rfl ?_
 cases hF5
 exact GoK.meet ⟨rfl, rfl, rfl⟩ (EnvD.nil) (TkD.nil _)
 rintro v h ⟨rfl, rfl, rfl⟩
 have H := HK4; clear HK4
 refine GoK.code ?_
 refine GoC.seq ?_
 refine GoC.region ?_
 refine GoO.pure (ps_assign rfl rfl) ?_
 refine GoO.nil ?_
 refine GoK.code ?_
 obtain rfl := Option.some.inj H
 exact GoC.retL (ds := [.v (.bool true)]) Try.results27 (ResL.cons (ResD.tmp rfl) (ResL.nil)) (Take.nil _) ⟨rfl, rfl⟩

def slices_Clone_int_F (s_ : (List Int)) : Option ((List Int)) :=
 ck (0 + s_.length ≤ 17592186044416) <|
 some (([] : List Int) ++ s_)
def slices_Clone_int_P (out : (List Int)) (d : D) (H : List HL) : Prop := ∃ β1 : BK, d = .own β1 1 0 out.length ∧ H = [.one β1 3 1 (row out)]
theorem slices_Clone_int_I (out : (List Int)) : IndepP (slices_Clone_int_P out) := IndepP.of (by rintro _ _ ⟨β1, rfl, rfl⟩; exact ⟨inferInstance, inferInstance⟩)
set_option maxRecDepth 100000 in
set_option maxHeartbeats 4000000 in
theorem slices_Clone_int_spec (s_ : (List Int)) {out : (List Int)} (H : slices_Clone_int_F s_ = some out) : Does Try.prog 20 [slD s_] [] (slices_Clone_int_P out) := by
 unfold slices_Clone_int_F at H
 refine Does.intro Try.func20 rfl Try.ntmps20 rfl fun w0 I0 => ?_
 refine GoC.seq ?_
 refine GoC.region ?_
 refine GoO.pure (ps_assign rfl rfl) ?_
 refine GoO.nil ?_
 refine GoK.code ?_
 refine GoC.seq ?_
 refine GoC.seq ?_
 refine GoC.region ?_
 refine GoO.pure (ps_move rfl rfl) ?_
 refine GoO.eff (ef_eqlNil rfl rfl rfl) (fun s2 hs2 => ?_)
 obtain ⟨bn1, hbn1, rfl⟩ := hs2
 refine GoO.nil ?_
 refine GoK.code ?_
 refine GoC.cond rfl (fun h2 => ?_) (fun h2 => ?_)
 have e0 := List.eq_nil_of_length_eq_zero (hbn1 h2); subst e0; replace H := ck_r H
 refine GoC.seq ?_
 refine GoC.region ?_
 refine GoO.pure (ps_assign rfl rfl) ?_
 refine GoO.nil ?_
 refine GoK.code ?_
 obtain rfl := Option.some.inj H
 refine GoC.le (le_row0 3 1 (row ([] : List Int)) rfl) ?_
 exact GoC.retL (ds := [.own ⟨0, 0, 0⟩ 1 0 0]) Try.results20 (ResL.cons (ResD.le (ResD.tmp rfl) (by exact DLe.nilOwn)) (ResL.nil)) (Take.cons _ _ _ _ _ Rem.p0 (Take.nil _)) ⟨⟨0, 0, 0⟩, rfl, rfl⟩
 refine GoC.skip ?_
 refine GoK.code ?_
 refine GoC.seq ?_
 refine GoC.region ?_
 refine GoO.effB (ef_buildSlice (row (([] : List Int) : List Int)) rfl (Parts.nil _) rfl rfl rfl rfl) (fun β3 => ?_)
 refine GoO.pure (ps_move rfl rfl) ?_
 have c5 := ck_l H; replace H := ck_r H
 refine GoO.effB (ef_append rfl rfl Rem.p0 Src.sl (cat_row (α := Int) (by first | rfl | omega | (simp only [subl_length, cpl_length, List.length_set, List.length_append, List.length_cons, List.length_nil, List.length_replicate, row_len] <;> first | rfl | omega)) (by first | rfl | omega | (simp only [subl_length, cpl_length, List.length_set, List.length_append, List.length_cons, List.length_nil, List.length_replicate, row_len] <;> first | rfl | omega)) (fun _ _ _ _ => rfl)) (by first | omega | (simp only [subl_length, cpl_length, List.length_set, List.length_append, List.length_cons, List.length_nil, List.length_replicate, row_len]; omega) | (simp only [subl_length, cpl_length, List.length_set, List.length_append, List.length_cons, List.length_nil, List.length_replicate, row_len]; done)) (app_le c5 rfl) rfl rfl rfl) (fun β4 => ?_)
 refine GoO.pure (ps_assign rfl rfl) ?_
 refine GoO.nil ?_
 refine GoK.code ?_
 obtain rfl := Option.some.inj H
 exact GoC.retL (ds := [.own β4 1 0 (([] : List Int) ++ s_).length]) Try.results20 (ResL.cons (ResD.le (ResD.tmp rfl) (by exact DLe.len (by first | rfl | omega | (simp only [row_len, gridC_len, rowO_len, List.length_append, List.length_cons, List.length_nil, List.length_nil] <;> first | rfl | omega)))) (ResL.nil)) (Take.cons _ _ _ _ _ Rem.p0 (Take.nil _)) ⟨β4, rfl, rfl⟩

def cmp_Compare_int_F (p0 : Int) (p1 : Int) : Option (Int) :=
 (cmp_isNaN_int_F p0).bind fun r1 =>
 (cmp_isNaN_int_F p1).bind fun r3 =>
 if r1 = true then
  if r3 = true then
   some 0
  else
   some (-1)
 else
  if r3 = true then
   some 1
  else
   if p0 < p1 then
    some (-1)
   else
    if p1 < p0 then
     some 1
    else
     some 0
def cmp_Compare_int_P (out : Int) (d : D) (H : List HL) : Prop := d = .v (.int .i64 out) ∧ H = []
theorem cmp_Compare_int_I (out : Int) : IndepP (cmp_Compare_int_P out) := IndepP.of (by rintro _ _ ⟨rfl, rfl⟩; exact ⟨inferInstance, inferInstance⟩)
set_option maxRecDepth 100000 in
set_option maxHeartbeats 4000000 in
theorem cmp_Compare_int_spec (p0 : Int) (p1 : Int) {out : Int} (H : cmp_Compare_int_F p0 p1 = some out) : Does Try.prog 53 [.v (.int .i64 p0), .v (.int .i64 p1)] [] (cmp_Compare_int_P out) := by
 unfold cmp_Compare_int_F at H
 refine Does.intro Try.func53 rfl Try.ntmps53 rfl fun w0 I0 => ?_
 refine GoC.seq ?_
 refine GoC.region ?_
 refine GoO.pure (ps_assign rfl rfl) ?_
 refine GoO.nil ?_
 refine GoK.code ?_
 refine GoC.seq ?_
 refine GoC.region ?_
 refine GoO.pure (ps_move rfl rfl) ?_
 have hb := bind_l H; clear H
 obtain ⟨r1, e2, H⟩ := hb
 refine GoO.effC (ef_call rfl (Take.nil _) (Take.nil _) (cmp_isNaN_int_spec p0 e2) (LendL.cons (Lend.refl _ _) (LendL.nil)) rfl (cmp_isNaN_int_I (r1))) (fun rr HH hp => ?_)
 obtain ⟨rfl, rfl⟩ := hp
 refine GoO.pure (ps_assign rfl rfl) ?_
 refine GoO.nil ?_
 refine GoK.code ?_
 refine GoC.seq ?_
 refine GoC.region ?_
 refine GoO.pure (ps_move rfl rfl) ?_
 have hb := bind_l H; clear H
 obtain ⟨r3, e4, H⟩ := hb
 refine GoO.effC (ef_call rfl (Take.nil _) (Take.nil _) (cmp_isNaN_int_spec p1 e4) (LendL.cons (Lend.refl _ _) (LendL.nil)) rfl (cmp_isNaN_int_I (r3))) (fun rr HH hp => ?_)
 obtain ⟨rfl, rfl⟩ := hp
 refine GoO.pure (ps_assign rfl rfl) ?_
 refine GoO.nil ?_
 refine GoK.code ?_
 refine GoC.seq ?_
 refine GoC.seq ?_
 refine GoC.region ?_
 refine GoO.pure (ps_move rfl rfl) ?_
 refine GoO.nil ?_
 refine GoK.code ?_
 refine GoC.cond rfl (fun h5 => ?_) (fun h5 => ?_)
 replace H := itb_t h5 H
 refine GoC.seq ?_
 refine GoC.seq ?_
 refine GoC.region ?_
 refine GoO.pure (ps_move rfl rfl) ?_
 refine GoO.nil ?_
 refine GoK.code ?_
 refine GoC.cond rfl (fun h6 => ?_) (fun h6 => ?_)
 replace H := itb_t h6 H
 refine GoC.seq ?_
 refine GoC.region ?_
 refine GoO.pure (ps_assign rfl rfl) ?_
 refine GoO.nil ?_
 refine GoK.code ?_
 obtain rfl := Option.some.inj H
 exact GoC.retL (ds := [.v (.int .i64 0)]) Try.results53 (ResL.cons (ResD.tmp rfl) (ResL.nil)) (Take.nil _) ⟨rfl, rfl⟩
 replace H := itb_f h6 H
 refine GoC.skip ?_
 refine GoK.code ?_
 refine GoC.seq ?_
 refine GoC.region ?_
 refine GoO.pure (ps_assign rfl rfl) ?_
 refine GoO.nil ?_
 refine GoK.code ?_
 obtain rfl := Option.some.inj H
 exact GoC.retL (ds := [.v (.int .i64 (-1))]) Try.results53 (ResL.cons (ResD.tmp rfl) (ResL.nil)) (Take.nil _) ⟨rfl, rfl⟩
 replace H := itb_f h5 H
 refine GoC.skip ?_
 refine GoK.code ?_
 refine GoC.seq ?_
 refine GoC.seq ?_
 refine GoC.region ?_
 refine GoO.pure (ps_move rfl rfl) ?_
 refine GoO.nil ?_
 refine GoK.code ?_
 refine GoC.cond rfl (fun h7 => ?_) (fun h7 => ?_)
 replace H := itb_t h7 H
 refine GoC.seq ?_
 refine GoC.region ?_
 refine GoO.pure (ps_assign rfl rfl) ?_
 refine GoO.nil ?_
 refine GoK.code ?_
 obtain rfl := Option.some.inj H
 exact GoC.retL (ds := [.v (.int .i64 1)]) Try.results53 (ResL.cons (ResD.tmp rfl) (ResL.nil)) (Take.nil _) ⟨rfl, rfl⟩
 replace H := itb_f h7 H
 refine GoC.skip ?_
 refine GoK.code ?_
 refine GoC.seq ?_
 refine GoC.seq ?_
 refine GoC.region ?_
 refine GoO.pure (ps_move rfl rfl) ?_
 refine GoO.pure (ps_move rfl rfl) ?_
 refine GoO.pure (ps_lss rfl rfl rfl) ?_
 refine GoO.nil ?_
 refine GoK.code ?_
 refine GoC.condD rfl (fun h8 => ?_) (fun h8 => ?_)
 replace H := ite_t h8 H
 refine GoC.seq ?_
 refine GoC.region ?_
 refine GoO.pure (ps_assign rfl rfl) ?_
 refine GoO.nil ?_
 refine GoK.code ?_
 obtain rfl := Option.some.inj H
 exact GoC.retL (ds := [.v (.int .i64 (-1))]) Try.results53 (ResL.cons (ResD.tmp rfl) (ResL.nil)) (Take.nil _) ⟨rfl, rfl⟩
 replace H := ite_f h8 H
 refine GoC.skip ?_
 refine GoK.code ?_
 refine GoC.seq ?_
 refine GoC.seq ?_
 refine GoC.region ?_
 refine GoO.pure (ps_move rfl rfl) ?_
 refine GoO.pure (ps_move rfl rfl) ?_
 refine GoO.pure (ps_gtr rfl rfl rfl) ?_
 refine GoO.nil ?_
 refine GoK.code ?_
 refine GoC.condD rfl (fun h9 => ?_) (fun h9 => ?_)
 replace H := ite_t h9 H
 refine GoC.seq ?_
 refine GoC.region ?_
 refine GoO.pure (ps_assign rfl rfl) ?_
 refine GoO.nil ?_
 refine GoK.code ?_
 obtain rfl := Option.some.inj H
 exact GoC.retL (ds := [.v (.int .i64 1)]) Try.results53 (ResL.cons (ResD.tmp rfl) (ResL.nil)) (Take.nil _) ⟨rfl, rfl⟩
 replace H := ite_f h9 H
 refine GoC.skip ?_
 refine GoK.code ?_
 refine GoC.seq ?_
 refine GoC.region ?_
 refine GoO.pure (ps_assign rfl rfl) ?_
 refine GoO.nil ?_
 refine GoK.code ?_
 obtain rfl := Option.some.inj H
 exact GoC.retL (ds := [.v (.int .i64 0)]) Try.results53 (ResL.cons (ResD.tmp rfl) (ResL.nil)) (Take.nil _) ⟨rfl, rfl⟩

def cmp_Or_int_B1 (p0 : (List Int)) : Nat → Unit → Option (Ct (Unit) (Int)) := fun k5 _ =>
 if (p0.getD k5 (0 : Int)) ≠ 0 then
  some (.ret (p0.getD k5 (0 : Int)))
 else
  some (.go ())
def cmp_Or_int_F (p0 : (List Int)) : Option (Int) :=
 (forC (cmp_Or_int_B1 p0) p0.length 0 ()).bind fun q => match q with
 | .go _ =>
  some 0
 | .ret x => some x
def cmp_Or_int_P (out : Int) (d : D) (H : List HL) : Prop := d = .v (.int .i64 out) ∧ H = []
theorem cmp_Or_int_I (out : Int) : IndepP (cmp_Or_int_P out) := IndepP.of (by rintro _ _ ⟨rfl, rfl⟩; exact ⟨inferInstance, inferInstance⟩)
set_option maxRecDepth 100000 in
set_option maxHeartbeats 4000000 in
theorem cmp_Or_int_spec (p0 : (List Int)) {out : Int} (H : cmp_Or_int_F p0 = some out) : Does Try.prog 52 [slD p0] [] (cmp_Or_int_P out) := by
 unfold cmp_Or_int_F at H
 refine Does.intro Try.func52 rfl Try.ntmps52 rfl fun w0 I0 => ?_
 refine GoC.seq ?_
 refine GoC.region ?_
 refine GoO.pure (ps_assign rfl rfl) ?_
 refine GoO.nil ?_
 refine GoK.code ?_
 refine GoC.seq ?_
 refine GoC.region ?_
 refine GoO.pure (ps_assign rfl rfl) ?_
 refine GoO.nil ?_
 refine GoK.code ?_
 refine GoC.seq ?_
 refine GoC.seq ?_
 refine GoC.region ?_
 refine GoO.pure (ps_move rfl rfl) ?_
 refine GoO.pure (ps_len rfl (by constructor) rfl) ?_
 refine GoO.lenLe (n := p0.length) (x := .tmp 6) rfl (by constructor) sl_lenLe (fun ml1 => ?_)
 refine GoO.pure (ps_move rfl rfl) ?_
 refine GoO.nil ?_
 refine GoK.code ?_
 have hb := bind_l H; clear H
 obtain ⟨q4, hl8, HK2⟩ := hb
 refine GoC.blockJ [(3, .v (.int .i64 0))] [] (fun v h => q4 = .go () ∧ v = [] ∧ h = []) ?_ ?_
 refine GoC.loopJ [(3, _), (6, _), (7, _)] [] (fun mQ v h => ∃ (k5 : Nat), (k5 + mQ = p0.length ∧ forC (cmp_Or_int_B1 p0) mQ k5 () = some q4) ∧ v = [(8, .v (.int .i64 ((k5 : Nat) : Int)))] ∧ h = []) p0.length ⟨_, ⟨by omega, hl8⟩, rfl, rfl⟩ (EnvD.eq rfl (EnvD.eq rfl (EnvD.eq rfl (EnvD.eq rfl (EnvD.nil))))) (TkD.nil _) ?_
 rintro m6 v h ⟨k5, ⟨hkk5, hF3⟩, rfl, rfl⟩
 refine GoC.seq ?_
 refine GoC.region ?_
 refine GoO.pure (ps_lss rfl rfl rfl) ?_
 refine GoO.nil ?_
 refine GoK.code ?_
 refine GoC.seq ?_
 refine GoC.condD rfl (fun (hk5 : (k5 : Int) < ((p0.length : Nat) : Int)) => ?_) (fun (hk5 : ¬ (k5 : Int) < ((p0.length : Nat) : Int)) => ?_)
 obtain ⟨m6', rfl⟩ : ∃ x, m6 = x + 1 := ⟨m6 - 1, by omega⟩
 have hb := bind_l hF3; clear hF3
 obtain ⟨qrm6, H, hF3⟩ := hb
 have hnk5 : k5 < p0.length := by omega
 have hIk5 : InI ((k5 : Int) + 1) := inI_len hk5 ml1
 refine GoC.skip ?_
 refine GoK.code ?_
 refine GoC.seq ?_
 refine GoC.block ?_
 refine GoC.seq ?_
 refine GoC.region ?_
 refine GoO.pure (ps_indexAddrRN rfl rfl hnk5 rfl) ?_
 refine GoO.pure (ps_loadR rfl hnk5 rfl rfl) ?_
 refine GoO.pure (ps_assign rfl rfl) ?_
 refine GoO.nil ?_
 refine GoK.code ?_
 refine GoC.seq ?_
 refine GoC.region ?_
 refine GoO.pure (ps_move rfl rfl) ?_
 refine GoO.pure (ps_move rfl rfl) ?_
 refine GoO.pure (ps_neq rfl rfl rfl) ?_
 refine GoO.nil ?_
 refine GoK.code ?_
 refine GoC.condD rfl (fun h7 => ?_) (fun h7 => ?_)
 replace H := ite_t h7 H
 refine GoC.seq ?_
 refine GoC.region ?_
 refine GoO.pure (ps_move rfl rfl) ?_
 refine GoO.pure (ps_assign rfl rfl) ?_
 refine GoO.nil ?_
 refine GoK.code ?_
 obtain rfl := Option.some.inj H
 obtain rfl := Option.some.inj hF3
 obtain rfl := Option.some.inj HK2
 exact GoC.retL (ds := [.v (.int .i64 (p0.getD k5 (0 : Int)))]) Try.results52 (ResL.cons (ResD.tmp rfl) (ResL.nil)) (Take.nil _) ⟨rfl, rfl⟩
 replace H := ite_f h7 H
 refine GoC.skip ?_
 refine GoK.blk ?_
 refine GoK.code ?_
 refine GoC.region ?_
 refine GoO.pure (ps_add rfl rfl rfl hIk5) ?_
 refine GoO.pure (ps_move rfl rfl) ?_
 refine GoO.nil ?_
 obtain rfl := Option.some.inj H
 exact GoK.againJ m6' (by omega) ⟨_, ⟨by omega, hF3⟩, rfl, rfl⟩ (EnvD.eq rfl (EnvD.eq rfl (EnvD.eq rfl (EnvD.eq rfl (EnvD.nil))))) (TkD.nil _)
 obtain rfl : m6 = 0 := by omega
 refine GoC.exit rfl ?_
 cases hF3
 exact GoK.meet ⟨rfl, rfl, rfl⟩ (EnvD.eq rfl (EnvD.nil)) (TkD.nil _)
 rintro v h ⟨rfl, rfl, rfl⟩
 have H := HK2; clear HK2
 refine GoK.code ?_
 refine GoC.seq ?_
 refine GoC.region ?_
 refine GoO.pure (ps_move rfl rfl) ?_
 refine GoO.pure (ps_assign rfl rfl) ?_
 refine GoO.nil ?_
 refine GoK.code ?_
 obtain rfl := Option.some.inj H
 exact GoC.retL (ds := [.v (.int .i64 0)]) Try.results52 (ResL.cons (ResD.tmp rfl) (ResL.nil)) (Take.nil _) ⟨rfl, rfl⟩

def slices_Equal_uint16_B1 (s1_ : (List U16)) (s2_ : (List U16)) : Nat → Unit → Option (Ct (Unit) (Bool)) := fun k7 _ =>
 ck (k7 < s2_.length) <|
 if ((s1_.getD k7 El.d).v) ≠ ((s2_.getD k7 El.d).v) then
  some (.ret false)
 else
  some (.go ())
def slices_Equal_uint16_F (s1_ : (List U16)) (s2_ : (List U16)) : Option (Bool) :=
 if ((s1_.length : Nat) : Int) ≠ ((s2_.length : Nat) : Int) then
  some false
 else
  (forC (slices_Equal_uint16_B1 s1_ s2_) s1_.length 0 ()).bind fun q => match q with
  | .go _ =>
   some true
  | .ret x => some x
def slices_Equal_uint16_P (out : Bool) (d : D) (H : List HL) : Prop := d = .v (.bool out) ∧ H = []
theorem slices_Equal_uint16_I (out : Bool) : IndepP (slices_Equal_uint16_P out) := IndepP.of (by rintro _ _ ⟨rfl, rfl⟩; exact ⟨inferInstance, inferInstance⟩)
set_option maxRecDepth 100000 in
set_option maxHeartbeats 4000000 in
theorem slices_Equal_uint16_spec (s1_ : (List U16)) (s2_ : (List U16)) {out : Bool} (H : slices_Equal_uint16_F s1_ s2_ = some out) : Does Try.prog 44 [slD s1_, slD s2_] [] (slices_Equal_uint16_P out) := by
 unfold slices_Equal_uint16_F at H
 refine Does.intro Try.func44 rfl Try.ntmps44 rfl fun w0 I0 => ?_
 refine GoC.seq ?_
 refine GoC.region ?_
 refine GoO.pure (ps_assign rfl rfl) ?_
 refine GoO.nil ?_
 refine GoK.code ?_
 refine GoC.seq ?_
 refine GoC.seq ?_
 refine GoC.region ?_
 refine GoO.pure (ps_move rfl rfl) ?_
 refine GoO.pure (ps_len rfl (by constructor) rfl) ?_
 refine GoO.lenLe (n := s1_.length) (x := .tmp 6) rfl (by constructor) sl_lenLe (fun ml1 => ?_)
 refine GoO.pure (ps_move rfl rfl) ?_
 refine GoO.pure (ps_len rfl (by constructor) rfl) ?_
 refine GoO.lenLe (n := s2_.length) (x := .tmp 8) rfl (by constructor) sl_lenLe (fun ml2 => ?_)
 refine GoO.pure (ps_neq rfl rfl rfl) ?_
 refine GoO.nil ?_
 refine GoK.code ?_
 refine GoC.condD rfl (fun h3 => ?_) (fun h3 => ?_)
 replace H := ite_t h3 H
 refine GoC.seq ?_
 refine GoC.region ?_
 refine GoO.pure (ps_assign rfl rfl) ?_
 refine GoO.nil ?_
 refine GoK.code ?_
 obtain rfl := Option.some.inj H
 exact GoC.retL (ds := [.v (.bool false)]) Try.results44 (ResL.cons (ResD.tmp rfl) (ResL.nil)) (Take.nil _) ⟨rfl, rfl⟩
 replace H := ite_f h3 H
 refine GoC.skip ?_
 refine GoK.code ?_
 refine GoC.seq ?_
 refine GoC.seq ?_
 refine GoC.region ?_
 refine GoO.pure (ps_move rfl rfl) ?_
 refine GoO.pure (ps_len rfl (by constructor) rfl) ?_
 refine GoO.pure (ps_move rfl rfl) ?_
 refine GoO.nil ?_
 refine GoK.code ?_
 have hb := bind_l H; clear H
 obtain ⟨q6, hl11, HK4⟩ := hb
 refine GoC.blockJ [] [] (fun v h => q6 = .go () ∧ v = [] ∧ h = []) ?_ ?_
 refine GoC.loopJ [(0, _), (1, _), (12, _)] [] (fun mQ v h => ∃ (k7 : Nat), (k7 + mQ = s1_.length ∧ forC (slices_Equal_uint16_B1 s1_ s2_) mQ k7 () = some q6) ∧ v = [(13, .v (.int .i64 ((k7 : Nat) : Int)))] ∧ h = []) s1_.length ⟨_, ⟨by omega, hl11⟩, rfl, rfl⟩ (EnvD.eq rfl (EnvD.eq rfl (EnvD.eq rfl (EnvD.eq rfl (EnvD.nil))))) (TkD.nil _) ?_
 rintro m8 v h ⟨k7, ⟨hkk7, hF5⟩, rfl, rfl⟩
 refine GoC.seq ?_
 refine GoC.region ?_
 refine GoO.pure (ps_lss rfl rfl rfl) ?_
 refine GoO.nil ?_
 refine GoK.code ?_
 refine GoC.seq ?_
 refine GoC.condD rfl (fun (hk7 : (k7 : Int) < ((s1_.length : Nat) : Int)) => ?_) (fun (hk7 : ¬ (k7 : Int) < ((s1_.length : Nat) : Int)) => ?_)
 obtain ⟨m8', rfl⟩ : ∃ x, m8 = x + 1 := ⟨m8 - 1, by omega⟩
 have hb := bind_l hF5; clear hF5
 obtain ⟨qrm8, H, hF5⟩ := hb
 have hnk7 : k7 < s1_.length := by omega
 have hIk7 : InI ((k7 : Int) + 1) := inI_len hk7 ml1
 refine GoC.skip ?_
 refine GoK.code ?_
 refine GoC.seq ?_
 refine GoC.block ?_
 refine GoC.seq ?_
 refine GoC.region ?_
 refine GoO.pure (ps_move rfl rfl) ?_
 refine GoO.pure (ps_assign rfl rfl) ?_
 refine GoO.nil ?_
 refine GoK.code ?_
 refine GoC.seq ?_
 refine GoC.drawA (.q 0 (.q 1 (.q 2 (.q 3 (.q 4 (.q 5 (.q 6 (.q 7 (.q 8 (.done)))))))))) follows (by kernel_rfl) ?_
 refine GoP.qN rfl (ps_move rfl rfl) ?_
 refine GoP.qN rfl (ps_move rfl rfl) ?_
 refine GoP.qN rfl (ps_indexAddrRN rfl rfl hnk7 rfl) ?_
 refine GoP.qN rfl (ps_loadR rfl hnk7 rfl rfl) ?_
 refine GoP.qN rfl (ps_move rfl rfl) ?_
 refine GoP.qN rfl (ps_move rfl rfl) ?_
 have c9 := ck_l H; replace H := ck_r H
 refine GoP.qN rfl (ps_indexAddrRN rfl rfl c9 rfl) ?_
 refine GoP.qN rfl (ps_loadR rfl c9 rfl rfl) ?_
 refine GoP.qN rfl (ps_neq rfl rfl rfl) ?_
 refine GoP.done ?_
 refine GoK.code ?_
 refine GoC.condD rfl (fun h10 => ?_) (fun h10 => ?_)
 replace H := ite_t h10 H
 refine GoC.seq ?_
 refine GoC.region ?_
 refine GoO.pure (ps_assign rfl rfl) ?_
 refine GoO.nil ?_
 refine GoK.code ?_
 obtain rfl := Option.some.inj H
 obtain rfl := Option.some.inj hF5
 obtain rfl := Option.some.inj HK4
 exact GoC.retL (ds := [.v (.bool false)]) Try.results44 (ResL.cons (ResD.tmp rfl) (ResL.nil)) (Take.nil _) ⟨rfl, rfl⟩
 replace H := ite_f h10 H
 refine GoC.skip ?_
 refine GoK.blk ?_
 refine GoK.code ?_
 refine GoC.region ?_
 refine GoO.pure (ps_add rfl rfl rfl hIk7) ?_
 refine GoO.pure (ps_move rfl rfl) ?_
 refine GoO.nil ?_
 obtain rfl := Option.some.inj H
 exact GoK.againJ m8' (by omega) ⟨_, ⟨by omega, hF5⟩, rfl, rfl⟩ (EnvD.eq rfl (EnvD.eq rfl (EnvD.eq rfl (EnvD.eq rfl (EnvD.nil))))) (TkD.nil _)
 obtain rfl : m8 = 0 := by omega
 refine GoC.exit rfl ?_
 cases hF5
 exact GoK.meet ⟨rfl, rfl, rfl⟩ (EnvD.nil) (TkD.nil _)
 rintro v h ⟨rfl, rfl, rfl⟩
 have H := HK4; clear HK4
 refine GoK.code ?_
 refine GoC.seq ?_
 refine GoC.region ?_
 refine GoO.pure (ps_assign rfl rfl) ?_
 refine GoO.nil ?_
 refine GoK.code ?_
 obtain rfl := Option.some.inj H
 exact GoC.retL (ds := [.v (.bool true)]) Try.results44 (ResL.cons (ResD.tmp rfl) (ResL.nil)) (Take.nil _) ⟨rfl, rfl⟩

def slices_Reverse_int_B1 : ((List Int) × Nat × Int) → Option (Ct ((List Int) × Nat × Int) ((List Int))) := fun (l3, n4, x5) =>
 if ((n4 : Nat) : Int) < x5 then
  ck (0 ≤ x5 ∧ x5 < ((l3.length : Nat) : Int)) <|
  ck (n4 < l3.length) <|
  ck (InI (((n4 : Nat) : Int) + 1)) <|
  ck (InI (x5 - 1)) <|
  some (.go (((l3.set n4 (l3.getD x5.toNat (0 : Int))).set x5.toNat (l3.getD n4 (0 : Int))), (n4 + 1), (x5 - 1)))
 else
  some (.brk (l3, n4, x5))
def slices_Reverse_int_F (p0 : (List Int)) : Option ((List Int)) :=
 ck (InI (((p0.length : Nat) : Int) - 1)) <|
 (loopC (slices_Reverse_int_B1) 1000000 (p0, 0, (((p0.length : Nat) : Int) - 1))).bind fun q => match q with
 | .go (l9, n10, x11) =>
  some l9
 | .ret x => some x
def slices_Reverse_int_P (out : (List Int)) (βp0 : BK) (d : D) (H : List HL) : Prop := d = .tp 0 (nth []) ∧ H = [.one βp0 3 1 (row out)]
theorem slices_Reverse_int_I (out : (List Int)) (βp0 : BK) : IndepP (slices_Reverse_int_P out βp0) := IndepP.of (by rintro _ _ ⟨rfl, rfl⟩; exact ⟨inferInstance, inferInstance⟩)
set_option maxRecDepth 100000 in
set_option maxHeartbeats 4000000 in
theorem slices_Reverse_int_spec (p0 : (List Int)) (βp0 : BK) {out : (List Int)} (H : slices_Reverse_int_F p0 = some out) : Does Try.prog 73 [.own βp0 1 0 p0.length] [.one βp0 3 1 (row p0)] (slices_Reverse_int_P out βp0) := by
 unfold slices_Reverse_int_F at H
 refine Does.intro Try.func73 rfl Try.ntmps73 rfl fun w0 I0 => ?_
 refine GoC.seq ?_
 refine GoC.region ?_
 refine GoO.pure (ps_move rfl rfl) ?_
 refine GoO.pure (ps_len rfl (by constructor) rfl) ?_
 refine GoO.lenLe (n := p0.length) (x := .tmp 4) rfl (by constructor) own_lenLe (fun ml1 => ?_)
 have c2 := ck_l H; replace H := ck_r H
 refine GoO.pure (ps_sub rfl rfl rfl c2) ?_
 refine GoO.pure (ps_assign rfl rfl) ?_
 refine GoO.pure (ps_assign rfl rfl) ?_
 refine GoO.nil ?_
 refine GoK.code ?_
 have hb := bind_l H; clear H
 obtain ⟨q8, hl18, HK6⟩ := hb
 refine GoC.blockJ [] [] (fun v h => ∃ (l9 : (List Int)) (n10 : Nat) (x11 : Int), q8 = .go (l9, n10, x11) ∧ v = [] ∧ h = [.one βp0 3 1 (row l9)]) ?_ ?_
 refine GoC.loopJ [] [] (fun mQ v h => ∃ (l3 : (List Int)) (n4 : Nat) (x5 : Int), loopC (slices_Reverse_int_B1) mQ (l3, n4, x5) = some q8 ∧ v = [(0, .own βp0 1 0 l3.length), (2, .v (.int .i64 ((n4 : Nat) : Int))), (3, .v (.int .i64 x5))] ∧ h = [.one βp0 3 1 (row l3)]) 1000000 ⟨_, _, _, hl18, rfl, rfl⟩ (EnvD.cons rfl (DLe.len (by first | rfl | omega | (simp only [row_len, gridC_len, rowO_len] <;> first | rfl | omega))) (EnvD.eq rfl (EnvD.eq rfl (EnvD.nil)))) (TkD.cons _ _ _ _ _ Rem.p0 (HLe.refl _) (TkD.nil _)) ?_
 rintro m12 v h ⟨l3, n4, x5, hF7, rfl, rfl⟩
 obtain ⟨m12', rfl⟩ | rfl : (∃ x, m12 = x + 1) ∨ m12 = 0 := by cases m12 <;> simp
 case inr => cases hF7
 have hb := bind_l hF7; clear hF7
 obtain ⟨qrm12, H, hF7⟩ := hb
 refine GoC.seq ?_
 refine GoC.seq ?_
 refine GoC.region ?_
 refine GoO.pure (ps_move rfl rfl) ?_
 refine GoO.pure (ps_move rfl rfl) ?_
 refine GoO.pure (ps_lss rfl rfl rfl) ?_
 refine GoO.nil ?_
 refine GoK.code ?_
 refine GoC.condD rfl (fun h13 => ?_) (fun h13 => ?_)
 replace H := ite_t h13 H
 refine GoC.skip ?_
 refine GoK.code ?_
 refine GoC.seq ?_
 refine GoC.block ?_
 refine GoC.drawP (.q 0 (.q 1 (.q 2 (.q 3 (.q 4 (.q 5 (.q 6 (.q 8 (.q 9 (.q 10 (.two 7 11 (.one 11 (.q 12 (.one 13 (.q 14 (.one 15 (.done)))))) (.one 7 (.q 12 (.one 13 (.q 14 (.one 15 (.done))))))))))))))))) [] follows (by kernel_rfl) (Take.nil _) ?_
 refine GoP.qN rfl (ps_move rfl rfl) ?_
 refine GoP.qN rfl (ps_move rfl rfl) ?_
 refine GoP.qN rfl (ps_move rfl rfl) ?_
 refine GoP.qN rfl (ps_move rfl rfl) ?_
 refine GoP.qN rfl (ps_move rfl rfl) ?_
 refine GoP.qN rfl (ps_move rfl rfl) ?_
 have c14 := ck_l H; replace H := ck_r H
 refine GoP.qN rfl (ps_indexAddr0 rfl rfl c14 rfl) ?_
 refine GoP.qN rfl (ps_move rfl rfl) ?_
 refine GoP.qN rfl (ps_move rfl rfl) ?_
 have c15 := ck_l H; replace H := ck_r H
 refine GoP.qN rfl (ps_indexAddr0N rfl rfl c15 rfl) ?_
 apply GoP.fork0
 exact rfl
 exact rfl
 exact trivial
 exact trivial
 exact Eff.pure (H1 := [.one βp0 3 1 (row l3)]) (ps_load rfl At.p0 At.p0 (idx_lt c14) rfl rfl)
 exact Eff.pure (H1 := [.one βp0 3 1 (row l3)]) (ps_load rfl At.p0 At.p0 c15 rfl rfl)
 exact (Take.nil _)
 exact (Take.nil _)
 intro hQ
 rintro _ rfl
 refine GoP.oneN rfl (ps_load rfl At.p0 At.p0 c15 rfl rfl) (Take.nil _) ?_
 refine GoP.qN rfl (ps_indexAddr0N rfl rfl c15 rfl) ?_
 refine GoP.one1 rfl trivial (ef_store rfl rfl rfl At.p0 (upd_row1 (v := (l3.getD x5.toNat (0 : Int))) rfl) c15 rfl) (Take.cons _ _ _ _ _ Rem.p0 (Take.nil _)) ?_
 refine GoP.qN rfl (ps_indexAddr0 rfl rfl c14 rfl) ?_
 refine GoP.one1 rfl trivial (ef_store rfl rfl rfl At.p0 (upd_row1 (v := (l3.getD n4 (0 : Int))) rfl) (lt_len (idx_lt c14) (by first | rfl | omega | (simp only [row_len, gridC_len, rowO_len, List.length_set] <;> first | rfl | omega))) rfl) (Take.cons _ _ _ _ _ Rem.p0 (Take.nil _)) ?_
 exact GoP.done (hQ)
 intro hQ
 rintro _ rfl
 refine GoP.oneN rfl (ps_load rfl At.p0 At.p0 (idx_lt c14) rfl rfl) (Take.nil _) ?_
 refine GoP.qN rfl (ps_indexAddr0N rfl rfl c15 rfl) ?_
 refine GoP.one1 rfl trivial (ef_store rfl rfl rfl At.p0 (upd_row1 (v := (l3.getD x5.toNat (0 : Int))) rfl) c15 rfl) (Take.cons _ _ _ _ _ Rem.p0 (Take.nil _)) ?_
 refine GoP.qN rfl (ps_indexAddr0 rfl rfl c14 rfl) ?_
 refine GoP.one1 rfl trivial (ef_store rfl rfl rfl At.p0 (upd_row1 (v := (l3.getD n4 (0 : Int))) rfl) (lt_len (idx_lt c14) (by first | rfl | omega | (simp only [row_len, gridC_len, rowO_len, List.length_set] <;> first | rfl | omega))) rfl) (Take.cons _ _ _ _ _ Rem.p0 (Take.nil _)) ?_
 refine GoP.done (GoK.le ?_ (hQ))
 refine Le.ofDW ?_ (TkD.cons _ _ _ _ _ Rem.p0 (HLe.refl _) (TkD.nil _))
 repeat (first | exact EnvLeW.nil | refine EnvLeW.cons rfl ?_ | refine EnvLeW.skip rfl ?_)
 refine GoK.blk ?_
 refine GoK.code ?_
 refine GoC.region ?_
 refine GoO.pure (ps_move rfl rfl) ?_
 have c16 := ck_l H; replace H := ck_r H
 refine GoO.pure (ps_add rfl rfl rfl c16) ?_
 refine GoO.pure (ps_move rfl rfl) ?_
 have c17 := ck_l H; replace H := ck_r H
 refine GoO.pure (ps_sub rfl rfl rfl c17) ?_
 refine GoO.pure (ps_assign rfl rfl) ?_
 refine GoO.pure (ps_assign rfl rfl) ?_
 refine GoO.nil ?_
 obtain rfl := Option.some.inj H
 exact GoK.againJ m12' (by omega) ⟨_, _, _, hF7, rfl, rfl⟩ (EnvD.cons rfl (DLe.len (by first | rfl | omega | (simp only [row_len, gridC_len, rowO_len, List.length_set] <;> first | rfl | omega))) (EnvD.eq rfl (EnvD.eq rfl (EnvD.nil)))) (TkD.cons _ _ _ _ _ Rem.p0 (HLe.refl _) (TkD.nil _))
 replace H := ite_f h13 H
 refine GoC.exit rfl ?_
 obtain rfl := Option.some.inj H
 obtain rfl := Option.some.inj hF7
 exact GoK.meet ⟨_, _, _, rfl, rfl, rfl⟩ (EnvD.nil) (TkD.cons _ _ _ _ _ Rem.p0 (HLe.refl _) (TkD.nil _))
 rintro v h ⟨l9, n10, x11, rfl, rfl, rfl⟩
 have H := HK6; clear HK6
 obtain rfl := Option.some.inj H
 exact GoK.retL (ds := []) Try.results73 (ResL.nil) (Take.cons _ _ _ _ _ Rem.p0 (Take.nil _)) ⟨rfl, rfl⟩

end Go.Proofs.Ytlpelkfcmeapiaa
