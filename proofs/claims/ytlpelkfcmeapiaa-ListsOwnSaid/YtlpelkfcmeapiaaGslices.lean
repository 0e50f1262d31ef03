/- The functions bits.Mul32, bits.Mul64, bits.Mul, slices.Repeat.int, bits.Len32, bits.Len64, bits.Len, cmp.isNaN.int, cmp.Less.int, slices.nextPowerOfTwo, slices.Next, slices.Grow.intL, slices.Concat.intL, slices.Index.int, slices.Contains.int, slices.Equal.int, slices.Equal.bool, slices.Clone.Arc, slices.Equal.Arc, slices.Clone.int, told as plain functions, and that the code does as they say. -/
import Derived.Test.YtlpelkfcmeapiaaTys
import Derived.Test.YtlpelkfcmeapiaaDat
namespace Go.Proofs.Ytlpelkfcmeapiaa
open Go Go.Proofs.Ytlpelkfcmeapiaa.Sx
set_option linter.unusedVariables false
set_option linter.unusedSimpArgs false
def bits_Mul32_F (p0 : Int) (p1 : Int) : Option (Int × Int) :=
 some ((IntKind.u32.wrap (Int.fdiv (IntKind.u64.wrap ((IntKind.u64.wrap p0) * (IntKind.u64.wrap p1))) (2 ^ min 32 64))), (IntKind.u32.wrap (IntKind.u64.wrap ((IntKind.u64.wrap p0) * (IntKind.u64.wrap p1)))))
def bits_Mul32_P (out : Int × Int) (d : D) (H : List HL) : Prop := d = .tp 2 (nth [.v (.int .u32 out.1), .v (.int .u32 out.2)]) ∧ H = []
theorem bits_Mul32_I (out : Int × Int) : IndepP (bits_Mul32_P out) := IndepP.of (by rintro _ _ ⟨rfl, rfl⟩; exact ⟨inferInstance, inferInstance⟩)
set_option maxRecDepth 100000 in
set_option maxHeartbeats 4000000 in
theorem bits_Mul32_spec (p0 : Int) (p1 : Int) {out : Int × Int} (H : bits_Mul32_F p0 p1 = some out) : Does Try.prog 90 [.v (.int .u32 p0), .v (.int .u32 p1)] [] (bits_Mul32_P out) := by
 unfold bits_Mul32_F at H
 refine Does.intro Try.func90 rfl Try.ntmps90 rfl fun w0 I0 => ?_
 refine GoC.seq ?_
 refine GoC.region ?_
 refine GoO.pure (ps_assign rfl rfl) ?_
 refine GoO.pure (ps_assign rfl rfl) ?_
 refine GoO.nil ?_
 refine GoK.code ?_
 refine GoC.seq ?_
 refine GoC.region ?_
 refine GoO.pure (ps_move rfl rfl) ?_
 refine GoO.pure (ps_convK rfl rfl) ?_
 refine GoO.pure (ps_move rfl rfl) ?_
 refine GoO.pure (ps_convK rfl rfl) ?_
 refine GoO.pure (ps_mulw rfl rfl rfl) ?_
 refine GoO.pure (ps_assign rfl rfl) ?_
 refine GoO.nil ?_
 refine GoK.code ?_
 refine GoC.seq ?_
 refine GoC.region ?_
 refine GoO.pure (ps_move rfl rfl) ?_
 refine GoO.pure (ps_shr rfl rfl rfl (by decide)) ?_
 refine GoO.pure (ps_convK rfl rfl) ?_
 refine GoO.pure (ps_move rfl rfl) ?_
 refine GoO.pure (ps_convK rfl rfl) ?_
 refine GoO.pure (ps_assign rfl rfl) ?_
 refine GoO.pure (ps_assign rfl rfl) ?_
 refine GoO.nil ?_
 refine GoK.code ?_
 obtain rfl := Option.some.inj H
 exact GoC.retL (ds := [.v (.int .u32 (IntKind.u32.wrap (Int.fdiv (IntKind.u64.wrap ((IntKind.u64.wrap p0) * (IntKind.u64.wrap p1))) (2 ^ min 32 64)))), .v (.int .u32 (IntKind.u32.wrap (IntKind.u64.wrap ((IntKind.u64.wrap p0) * (IntKind.u64.wrap p1)))))]) Try.results90 (ResL.cons (ResD.tmp rfl) (ResL.cons (ResD.tmp rfl) (ResL.nil))) (Take.nil _) ⟨rfl, rfl⟩

def bits_Mul64_F (p0 : Int) (p1 : Int) : Option (Int × Int) :=
 some ((IntKind.u64.wrap ((IntKind.u64.wrap ((IntKind.u64.wrap ((Int.fdiv p0 (2 ^ min 32 64)) * (Int.fdiv p1 (2 ^ min 32 64)))) + (Int.fdiv (IntKind.u64.wrap ((IntKind.u64.wrap ((Int.fdiv p0 (2 ^ min 32 64)) * (bitsOf .and .u64 p1 4294967295))) + (Int.fdiv (IntKind.u64.wrap ((bitsOf .and .u64 p0 4294967295) * (bitsOf .and .u64 p1 4294967295))) (2 ^ min 32 64)))) (2 ^ min 32 64)))) + (Int.fdiv (IntKind.u64.wrap ((bitsOf .and .u64 (IntKind.u64.wrap ((IntKind.u64.wrap ((Int.fdiv p0 (2 ^ min 32 64)) * (bitsOf .and .u64 p1 4294967295))) + (Int.fdiv (IntKind.u64.wrap ((bitsOf .and .u64 p0 4294967295) * (bitsOf .and .u64 p1 4294967295))) (2 ^ min 32 64)))) 4294967295) + (IntKind.u64.wrap ((bitsOf .and .u64 p0 4294967295) * (Int.fdiv p1 (2 ^ min 32 64)))))) (2 ^ min 32 64)))), (IntKind.u64.wrap (p0 * p1)))
def bits_Mul64_P (out : Int × Int) (d : D) (H : List HL) : Prop := d = .tp 2 (nth [.v (.int .u64 out.1), .v (.int .u64 out.2)]) ∧ H = []
theorem bits_Mul64_I (out : Int × Int) : IndepP (bits_Mul64_P out) := IndepP.of (by rintro _ _ ⟨rfl, rfl⟩; exact ⟨inferInstance, inferInstance⟩)
set_option maxRecDepth 100000 in
set_option maxHeartbeats 4000000 in
theorem bits_Mul64_spec (p0 : Int) (p1 : Int) {out : Int × Int} (H : bits_Mul64_F p0 p1 = some out) : Does Try.prog 91 [.v (.int .u64 p0), .v (.int .u64 p1)] [] (bits_Mul64_P out) := by
 unfold bits_Mul64_F at H
 refine Does.intro Try.func91 rfl Try.ntmps91 rfl fun w0 I0 => ?_
 refine GoC.seq ?_
 refine GoC.region ?_
 refine GoO.pure (ps_assign rfl rfl) ?_
 refine GoO.pure (ps_assign rfl rfl) ?_
 refine GoO.nil ?_
 refine GoK.code ?_
 refine GoC.seq ?_
 refine GoC.region ?_
 refine GoO.pure (ps_move rfl rfl) ?_
 refine GoO.pure (ps_and rfl rfl rfl) ?_
 refine GoO.pure (ps_assign rfl rfl) ?_
 refine GoO.nil ?_
 refine GoK.code ?_
 refine GoC.seq ?_
 refine GoC.region ?_
 refine GoO.pure (ps_move rfl rfl) ?_
 refine GoO.pure (ps_shr rfl rfl rfl (by decide)) ?_
 refine GoO.pure (ps_assign rfl rfl) ?_
 refine GoO.nil ?_
 refine GoK.code ?_
 refine GoC.seq ?_
 refine GoC.region ?_
 refine GoO.pure (ps_move rfl rfl) ?_
 refine GoO.pure (ps_and rfl rfl rfl) ?_
 refine GoO.pure (ps_assign rfl rfl) ?_
 refine GoO.nil ?_
 refine GoK.code ?_
 refine GoC.seq ?_
 refine GoC.region ?_
 refine GoO.pure (ps_move rfl rfl) ?_
 refine GoO.pure (ps_shr rfl rfl rfl (by decide)) ?_
 refine GoO.pure (ps_assign rfl rfl) ?_
 refine GoO.nil ?_
 refine GoK.code ?_
 refine GoC.seq ?_
 refine GoC.region ?_
 refine GoO.pure (ps_move rfl rfl) ?_
 refine GoO.pure (ps_move rfl rfl) ?_
 refine GoO.pure (ps_mulw rfl rfl rfl) ?_
 refine GoO.pure (ps_assign rfl rfl) ?_
 refine GoO.nil ?_
 refine GoK.code ?_
 refine GoC.seq ?_
 refine GoC.region ?_
 refine GoO.pure (ps_move rfl rfl) ?_
 refine GoO.pure (ps_move rfl rfl) ?_
 refine GoO.pure (ps_mulw rfl rfl rfl) ?_
 refine GoO.pure (ps_move rfl rfl) ?_
 refine GoO.pure (ps_shr rfl rfl rfl (by decide)) ?_
 refine GoO.pure (ps_addw rfl rfl rfl) ?_
 refine GoO.pure (ps_assign rfl rfl) ?_
 refine GoO.nil ?_
 refine GoK.code ?_
 refine GoC.seq ?_
 refine GoC.region ?_
 refine GoO.pure (ps_move rfl rfl) ?_
 refine GoO.pure (ps_and rfl rfl rfl) ?_
 refine GoO.pure (ps_assign rfl rfl) ?_
 refine GoO.nil ?_
 refine GoK.code ?_
 refine GoC.seq ?_
 refine GoC.region ?_
 refine GoO.pure (ps_move rfl rfl) ?_
 refine GoO.pure (ps_shr rfl rfl rfl (by decide)) ?_
 refine GoO.pure (ps_assign rfl rfl) ?_
 refine GoO.nil ?_
 refine GoK.code ?_
 refine GoC.seq ?_
 refine GoC.region ?_
 refine GoO.pure (ps_move rfl rfl) ?_
 refine GoO.pure (ps_move rfl rfl) ?_
 refine GoO.pure (ps_move rfl rfl) ?_
 refine GoO.pure (ps_mulw rfl rfl rfl) ?_
 refine GoO.pure (ps_addw rfl rfl rfl) ?_
 refine GoO.pure (ps_assign rfl rfl) ?_
 refine GoO.nil ?_
 refine GoK.code ?_
 refine GoC.seq ?_
 refine GoC.region ?_
 refine GoO.pure (ps_move rfl rfl) ?_
 refine GoO.pure (ps_move rfl rfl) ?_
 refine GoO.pure (ps_mulw rfl rfl rfl) ?_
 refine GoO.pure (ps_move rfl rfl) ?_
 refine GoO.pure (ps_addw rfl rfl rfl) ?_
 refine GoO.pure (ps_move rfl rfl) ?_
 refine GoO.pure (ps_shr rfl rfl rfl (by decide)) ?_
 refine GoO.pure (ps_addw rfl rfl rfl) ?_
 refine GoO.pure (ps_assign rfl rfl) ?_
 refine GoO.nil ?_
 refine GoK.code ?_
 refine GoC.seq ?_
 refine GoC.region ?_
 refine GoO.pure (ps_move rfl rfl) ?_
 refine GoO.pure (ps_move rfl rfl) ?_
 refine GoO.pure (ps_mulw rfl rfl rfl) ?_
 refine GoO.pure (ps_assign rfl rfl) ?_
 refine GoO.nil ?_
 refine GoK.code ?_
 obtain rfl := Option.some.inj H
 exact GoC.retL (ds := [.v (.int .u64 (IntKind.u64.wrap ((IntKind.u64.wrap ((IntKind.u64.wrap ((Int.fdiv p0 (2 ^ min 32 64)) * (Int.fdiv p1 (2 ^ min 32 64)))) + (Int.fdiv (IntKind.u64.wrap ((IntKind.u64.wrap ((Int.fdiv p0 (2 ^ min 32 64)) * (bitsOf .and .u64 p1 4294967295))) + (Int.fdiv (IntKind.u64.wrap ((bitsOf .and .u64 p0 4294967295) * (bitsOf .and .u64 p1 4294967295))) (2 ^ min 32 64)))) (2 ^ min 32 64)))) + (Int.fdiv (IntKind.u64.wrap ((bitsOf .and .u64 (IntKind.u64.wrap ((IntKind.u64.wrap ((Int.fdiv p0 (2 ^ min 32 64)) * (bitsOf .and .u64 p1 4294967295))) + (Int.fdiv (IntKind.u64.wrap ((bitsOf .and .u64 p0 4294967295) * (bitsOf .and .u64 p1 4294967295))) (2 ^ min 32 64)))) 4294967295) + (IntKind.u64.wrap ((bitsOf .and .u64 p0 4294967295) * (Int.fdiv p1 (2 ^ min 32 64)))))) (2 ^ min 32 64))))), .v (.int .u64 (IntKind.u64.wrap (p0 * p1)))]) Try.results91 (ResL.cons (ResD.tmp rfl) (ResL.cons (ResD.tmp rfl) (ResL.nil))) (Take.nil _) ⟨rfl, rfl⟩

def bits_Mul_F (p0 : Int) (p1 : Int) : Option (Int × Int) :=
 (bits_Mul64_F p0 p1).bind fun (r1, r2) =>
 some (r1, r2)
def bits_Mul_P (out : Int × Int) (d : D) (H : List HL) : Prop := d = .tp 2 (nth [.v (.int .u64 out.1), .v (.int .u64 out.2)]) ∧ H = []
theorem bits_Mul_I (out : Int × Int) : IndepP (bits_Mul_P out) := IndepP.of (by rintro _ _ ⟨rfl, rfl⟩; exact ⟨inferInstance, inferInstance⟩)
set_option maxRecDepth 100000 in
set_option maxHeartbeats 4000000 in
theorem bits_Mul_spec (p0 : Int) (p1 : Int) {out : Int × Int} (H : bits_Mul_F p0 p1 = some out) : Does Try.prog 68 [.v (.int .u64 p0), .v (.int .u64 p1)] [] (bits_Mul_P out) := by
 unfold bits_Mul_F at H
 refine Does.intro Try.func68 rfl Try.ntmps68 rfl fun w0 I0 => ?_
 refine GoC.seq ?_
 refine GoC.region ?_
 refine GoO.pure (ps_assign rfl rfl) ?_
 refine GoO.pure (ps_assign rfl rfl) ?_
 refine GoO.nil ?_
 refine GoK.code ?_
 refine GoC.seq ?_
 refine GoC.condF rfl ?_
 refine GoC.skip ?_
 refine GoK.code ?_
 refine GoC.seq ?_
 refine GoC.region ?_
 refine GoO.pure (ps_move rfl rfl) ?_
 refine GoO.pure (ps_move rfl rfl) ?_
 have hb := bind_l H; clear H
 obtain ⟨⟨r1, r2⟩, e3, H⟩ := hb
 refine GoO.effC (ef_call rfl (Take.nil _) (Take.nil _) (bits_Mul64_spec p0 p1 e3) (LendL.cons (Lend.refl _ _) (LendL.cons (Lend.refl _ _) (LendL.nil))) rfl (bits_Mul64_I (r1, r2))) (fun rr HH hp => ?_)
 obtain ⟨rfl, rfl⟩ := hp
 refine GoO.pure (ps_move rfl rfl) ?_
 refine GoO.pure (ps_extract rfl rfl rfl) ?_
 refine GoO.pure (ps_extract rfl rfl rfl) ?_
 refine GoO.pure (ps_assign rfl rfl) ?_
 refine GoO.pure (ps_assign rfl rfl) ?_
 refine GoO.nil ?_
 refine GoK.code ?_
 refine GoC.seq ?_
 refine GoC.region ?_
 refine GoO.pure (ps_move rfl rfl) ?_
 refine GoO.pure (ps_move rfl rfl) ?_
 refine GoO.pure (ps_assign rfl rfl) ?_
 refine GoO.pure (ps_assign rfl rfl) ?_
 refine GoO.nil ?_
 refine GoK.code ?_
 obtain rfl := Option.some.inj H
 exact GoC.retL (ds := [.v (.int .u64 r1), .v (.int .u64 r2)]) Try.results68 (ResL.cons (ResD.tmp rfl) (ResL.cons (ResD.tmp rfl) (ResL.nil))) (Take.nil _) ⟨rfl, rfl⟩

def slices_Repeat_int_B1 : ((List Int) × Nat) → Option (Ct ((List Int) × Nat) ((List Int))) := fun (l14, n15) =>
 if ((n15 : Nat) : Int) < ((l14.length : Nat) : Int) then
  ck (n15 ≤ l14.length) <|
  ck (InI (((n15 : Nat) : Int) + (((min (n15) (l14.length - n15)) : Nat) : Int))) <|
  some (.go ((cpl l14 (n15 + 0) (l14.length - n15) (subl l14 (0 + 0) (n15))), (n15 + (min (n15) (l14.length - n15)))))
 else
  some (.brk (l14, n15))
def slices_Repeat_int_F (p0 : (List Int)) (p1 : Int) : Option ((List Int)) :=
 ((
  if p1 < 0 then
   none
  else
   some ()) : Option (Unit)).bind fun () =>
 (bits_Mul_F (IntKind.u64.wrap ((p0.length : Nat) : Int)) (IntKind.u64.wrap p1)).bind fun (r5, r6) =>
 ((
  if 0 < r5 then
   none
  else
   if 9223372036854775807 < r6 then
    none
   else
    some ()) : Option (Unit)).bind fun () =>
 ck (0 ≤ (IntKind.i64.wrap r6) ∧ (IntKind.i64.wrap r6) ≤ 10000000000) <|
 (loopC (slices_Repeat_int_B1) 1000000 ((cpl (List.replicate ((IntKind.i64.wrap r6).toNat) (0 : Int)) 0 ((IntKind.i64.wrap r6).toNat) p0), (min p0.length ((IntKind.i64.wrap r6).toNat)))).bind fun q => match q with
 | .go (l19, n20) =>
  some l19
 | .ret x => some x
def slices_Repeat_int_P (out : (List Int)) (d : D) (H : List HL) : Prop := ∃ β1 : BK, d = .own β1 1 0 out.length ∧ H = [.one β1 3 1 (row out)]
theorem slices_Repeat_int_I (out : (List Int)) : IndepP (slices_Repeat_int_P out) := IndepP.of (by rintro _ _ ⟨β1, rfl, rfl⟩; exact ⟨inferInstance, inferInstance⟩)
set_option maxRecDepth 100000 in
set_option maxHeartbeats 4000000 in
theorem slices_Repeat_int_spec (p0 : (List Int)) (p1 : Int) {out : (List Int)} (H : slices_Repeat_int_F p0 p1 = some out) : Does Try.prog 39 [slD p0, .v (.int .i64 p1)] [] (slices_Repeat_int_P out) := by
 unfold slices_Repeat_int_F at H
 refine Does.intro Try.func39 rfl Try.ntmps39 rfl fun w0 I0 => ?_
 refine GoC.seq ?_
 refine GoC.region ?_
 refine GoO.pure (ps_assign rfl rfl) ?_
 refine GoO.nil ?_
 refine GoK.code ?_
 have hb := bind_l H; clear H
 obtain ⟨⟨⟩, H, HK1⟩ := hb
 refine GoC.seqJ [(0, slD p0), (1, .v (.int .i64 p1))] [] (fun v h => v = [] ∧ h = []) ?_ ?_
 refine GoC.seq ?_
 refine GoC.region ?_
 refine GoO.pure (ps_move rfl rfl) ?_
 refine GoO.pure (ps_lss rfl rfl rfl) ?_
 refine GoO.nil ?_
 refine GoK.code ?_
 refine GoC.condD rfl (fun h3 => ?_) (fun h3 => ?_)
 replace H := ite_t h3 H
 cases H
 replace H := ite_f h3 H
 refine GoC.skip ?_
 cases H
 exact GoK.meet ⟨rfl, rfl⟩ (EnvD.eq rfl (EnvD.eq rfl (EnvD.nil))) (TkD.nil _)
 rintro v h ⟨rfl, rfl⟩
 have H := HK1; clear HK1
 refine GoC.seq ?_
 refine GoC.region ?_
 refine GoO.pure (ps_move rfl rfl) ?_
 refine GoO.pure (ps_len rfl (by constructor) rfl) ?_
 refine GoO.lenLe (n := p0.length) (x := .tmp 13) rfl (by constructor) sl_lenLe (fun ml4 => ?_)
 refine GoO.pure (ps_convK rfl rfl) ?_
 refine GoO.pure (ps_move rfl rfl) ?_
 refine GoO.pure (ps_convK rfl rfl) ?_
 have hb := bind_l H; clear H
 obtain ⟨⟨r5, r6⟩, e7, H⟩ := hb
 refine GoO.effC (ef_call rfl (Take.nil _) (Take.nil _) (bits_Mul_spec (IntKind.u64.wrap ((p0.length : Nat) : Int)) (IntKind.u64.wrap p1) e7) (LendL.cons (Lend.refl _ _) (LendL.cons (Lend.refl _ _) (LendL.nil))) rfl (bits_Mul_I (r5, r6))) (fun rr HH hp => ?_)
 obtain ⟨rfl, rfl⟩ := hp
 refine GoO.pure (ps_move rfl rfl) ?_
 refine GoO.pure (ps_extract rfl rfl rfl) ?_
 refine GoO.pure (ps_extract rfl rfl rfl) ?_
 refine GoO.pure (ps_assign rfl rfl) ?_
 refine GoO.pure (ps_assign rfl rfl) ?_
 refine GoO.nil ?_
 refine GoK.code ?_
 have hb := bind_l H; clear H
 obtain ⟨⟨⟩, H, HK8⟩ := hb
 refine GoC.seqJ [(0, slD p0), (6, .v (.int .u64 r6))] [] (fun v h => v = [] ∧ h = []) ?_ ?_
 refine GoC.seq ?_
 refine GoC.region ?_
 refine GoO.pure (ps_move rfl rfl) ?_
 refine GoO.pure (ps_gtr rfl rfl rfl) ?_
 refine GoO.pure (ps_move rfl rfl) ?_
 refine GoO.guardE rfl rfl rfl rfl (fun h10 => ?_) (fun h10 => ?_)
 replace H := ite_f h10 H
 refine GoO.pure (ps_move rfl rfl) ?_
 refine GoO.guardT rfl rfl rfl ?_
 refine GoO.pure (ps_gtr rfl rfl rfl) ?_
 refine GoO.pure (ps_pickF rfl rfl rfl) ?_
 refine GoO.nil ?_
 refine GoK.code ?_
 refine GoC.condD rfl (fun h11 => ?_) (fun h11 => ?_)
 replace H := ite_t h11 H
 cases H
 replace H := ite_f h11 H
 refine GoC.skip ?_
 cases H
 exact GoK.meet ⟨rfl, rfl⟩ (EnvD.eq rfl (EnvD.eq rfl (EnvD.nil))) (TkD.nil _)
 replace H := ite_t h10 H
 refine GoO.guardF rfl rfl rfl rfl ?_
 refine GoO.pure (ps_pickT rfl rfl rfl) ?_
 refine GoO.nil ?_
 refine GoK.code ?_
 refine GoC.condT rfl ?_
 cases H
 rintro v h ⟨rfl, rfl⟩
 have H := HK8; clear HK8
 refine GoC.seq ?_
 refine GoC.region ?_
 refine GoO.pure (ps_move rfl rfl) ?_
 refine GoO.pure (ps_convK rfl rfl) ?_
 have c13 := ck_l H; replace H := ck_r H
 refine GoO.effB (ef_makeZ rfl rfl c13 rfl rfl rfl) (fun β12 => ?_)
 refine GoO.le (Le.reH At.p0 (HLe.zeros (α := Int) ⟨trivial, DLe.refl _⟩)) ?_
 refine GoO.pure (ps_assign rfl rfl) ?_
 refine GoO.nil ?_
 refine GoK.code ?_
 refine GoC.seq ?_
 refine GoC.region ?_
 refine GoO.pure (ps_move rfl rfl) ?_
 refine GoO.pure (ps_move rfl rfl) ?_
 refine GoO.eff1 (ef_copy rfl rfl At.p0 Src.sl (cpy_row (α := Int) (xs := (List.replicate ((IntKind.i64.wrap r6).toNat) (0 : Int))) (ys := p0) (by first | omega | (simp only [subl_length, cpl_length, List.length_set, List.length_append, List.length_cons, List.length_nil, List.length_replicate, row_len]; omega) | (simp only [subl_length, cpl_length, List.length_set, List.length_append, List.length_cons, List.length_nil, List.length_replicate, row_len]; done)) (by first | omega | (simp only [subl_length, cpl_length, List.length_set, List.length_append, List.length_cons, List.length_nil, List.length_replicate, row_len]; omega) | (simp only [subl_length, cpl_length, List.length_set, List.length_append, List.length_cons, List.length_nil, List.length_replicate, row_len]; done)) (fun _ _ _ _ => rfl)) (by first | omega | (simp only [subl_length, cpl_length, List.length_set, List.length_append, List.length_cons, List.length_nil, List.length_replicate, row_len]; omega) | (simp only [subl_length, cpl_length, List.length_set, List.length_append, List.length_cons, List.length_nil, List.length_replicate, row_len]; done)) rfl) ?_
 refine GoO.pure (ps_assign rfl rfl) ?_
 refine GoO.nil ?_
 refine GoK.code ?_
 refine GoC.seq ?_
 have hb := bind_l H; clear H
 obtain ⟨q18, hl26, HK16⟩ := hb
 refine GoC.blockJ [] [] (fun v h => ∃ (l19 : (List Int)) (n20 : Nat), q18 = .go (l19, n20) ∧ v = [(7, .own β12 1 0 l19.length)] ∧ h = [.one β12 3 1 (row l19)]) ?_ ?_
 refine GoC.loopJ [] [] (fun mQ v h => ∃ (l14 : (List Int)) (n15 : Nat), loopC (slices_Repeat_int_B1) mQ (l14, n15) = some q18 ∧ v = [(7, .own β12 1 0 l14.length), (8, .v (.int .i64 ((n15 : Nat) : Int)))] ∧ h = [.one β12 3 1 (row l14)]) 1000000 ⟨_, _, hl26, rfl, rfl⟩ (EnvD.cons rfl (DLe.len (by first | rfl | omega | (simp only [row_len, gridC_len, rowO_len, List.length_replicate, cpl_length] <;> first | rfl | omega))) (EnvD.eq rfl (EnvD.nil))) (TkD.cons _ _ _ _ _ Rem.p0 (HLe.refl _) (TkD.nil _)) ?_
 rintro m21 v h ⟨l14, n15, hF17, rfl, rfl⟩
 obtain ⟨m21', rfl⟩ | rfl : (∃ x, m21 = x + 1) ∨ m21 = 0 := by cases m21 <;> simp
 case inr => cases hF17
 have hb := bind_l hF17; clear hF17
 obtain ⟨qrm21, H, hF17⟩ := hb
 refine GoC.seq ?_
 refine GoC.seq ?_
 refine GoC.region ?_
 refine GoO.pure (ps_move rfl rfl) ?_
 refine GoO.pure (ps_move rfl rfl) ?_
 refine GoO.pure (ps_len rfl (by constructor) rfl) ?_
 refine GoO.lenLe (n := l14.length) (x := .tmp 35) rfl (by constructor) own_lenLe (fun ml22 => ?_)
 refine GoO.pure (ps_lss rfl rfl rfl) ?_
 refine GoO.nil ?_
 refine GoK.code ?_
 refine GoC.condD rfl (fun h23 => ?_) (fun h23 => ?_)
 replace H := ite_t h23 H
 refine GoC.skip ?_
 refine GoK.code ?_
 refine GoC.block ?_
 refine GoC.drawP (.q 0 (.q 1 (.q 2 (.q 3 (.q 4 (.q 5 (.q 6 (.one 7 (.q 8 (.q 9 (.done))))))))))) [] follows (by kernel_rfl) (Take.nil _) ?_
 refine GoP.qN rfl (ps_move rfl rfl) ?_
 refine GoP.qN rfl (ps_move rfl rfl) ?_
 refine GoP.qN rfl (ps_move rfl rfl) ?_
 have c24 := ck_l H; replace H := ck_r H
 refine GoP.qN rfl (ps_slice rfl (Bd.nat _ _ n15 _ rfl) (Bd.no _) c24 (Nat.le_refl _) rfl) ?_
 refine GoP.qN rfl (ps_move rfl rfl) ?_
 refine GoP.qN rfl (ps_move rfl rfl) ?_
 refine GoP.qN rfl (ps_slice rfl (Bd.no _) (Bd.nat _ _ n15 _ rfl) (Nat.zero_le _) c24 rfl) ?_
 refine GoP.one1 rfl trivial (ef_copy rfl rfl At.p0 (Src.own At.p0 (by first | omega | (simp only [subl_length, cpl_length, List.length_set, List.length_append, List.length_cons, List.length_nil, List.length_replicate, row_len]; omega) | (simp only [subl_length, cpl_length, List.length_set, List.length_append, List.length_cons, List.length_nil, List.length_replicate, row_len]; done))) (cpy_row (α := Int) (xs := l14) (ys := (subl l14 (0 + 0) (n15))) (by first | omega | (simp only [subl_length, cpl_length, List.length_set, List.length_append, List.length_cons, List.length_nil, List.length_replicate, row_len]; omega) | (simp only [subl_length, cpl_length, List.length_set, List.length_append, List.length_cons, List.length_nil, List.length_replicate, row_len]; done)) (by first | omega | (simp only [subl_length, cpl_length, List.length_set, List.length_append, List.length_cons, List.length_nil, List.length_replicate, row_len]; omega) | (simp only [subl_length, cpl_length, List.length_set, List.length_append, List.length_cons, List.length_nil, List.length_replicate, row_len]; done)) (fun _ _ h _ => congrArg (fun z => El.enc z _) (subl_getD h).symm)) (by first | omega | (simp only [subl_length, cpl_length, List.length_set, List.length_append, List.length_cons, List.length_nil, List.length_replicate, row_len]; omega) | (simp only [subl_length, cpl_length, List.length_set, List.length_append, List.length_cons, List.length_nil, List.length_replicate, row_len]; done)) rfl) (Take.cons _ _ _ _ _ Rem.p0 (Take.nil _)) ?_
 have c25 := ck_l H; replace H := ck_r H
 refine GoP.qN rfl (ps_add rfl rfl rfl c25) ?_
 refine GoP.qN rfl (ps_assign rfl rfl) ?_
 refine GoP.done ?_
 refine GoK.blk ?_
 obtain rfl := Option.some.inj H
 exact GoK.againJ m21' (by omega) ⟨_, _, hF17, rfl, rfl⟩ (EnvD.cons rfl (DLe.len (by first | rfl | omega | (simp only [row_len, gridC_len, rowO_len, subl_length, cpl_length] <;> first | rfl | omega))) (EnvD.eq rfl (EnvD.nil))) (TkD.cons _ _ _ _ _ Rem.p0 (HLe.refl _) (TkD.nil _))
 replace H := ite_f h23 H
 refine GoC.exit rfl ?_
 obtain rfl := Option.some.inj H
 obtain rfl := Option.some.inj hF17
 exact GoK.meet ⟨_, _, rfl, rfl, rfl⟩ (EnvD.cons rfl (DLe.len (by first | rfl | omega | (simp only [row_len, gridC_len, rowO_len] <;> first | rfl | omega))) (EnvD.nil)) (TkD.cons _ _ _ _ _ Rem.p0 (HLe.refl _) (TkD.nil _))
 rintro v h ⟨l19, n20, rfl, rfl, rfl⟩
 have H := HK16; clear HK16
 refine GoK.code ?_
 refine GoC.seq ?_
 refine GoC.region ?_
 refine GoO.pure (ps_move rfl rfl) ?_
 refine GoO.pure (ps_assign rfl rfl) ?_
 refine GoO.nil ?_
 refine GoK.code ?_
 obtain rfl := Option.some.inj H
 exact GoC.retL (ds := [.own β12 1 0 l19.length]) Try.results39 (ResL.cons (ResD.tmp rfl) (ResL.nil)) (Take.cons _ _ _ _ _ Rem.p0 (Take.nil _)) ⟨β12, rfl, rfl⟩

def bits_Len32_F (p0 : Int) : Option (Int) :=
 ((
  if 65536 ≤ p0 then
   some ((Int.fdiv p0 (2 ^ min 16 32)), 16)
  else
   some (p0, 0)) : Option (Int × Int)).bind fun (x1, x2) =>
 ((
  if 256 ≤ x1 then
   ck (InI (x2 + 8)) <|
   some ((Int.fdiv x1 (2 ^ min 8 32)), (x2 + 8))
  else
   some (x1, x2)) : Option (Int × Int)).bind fun (x6, x7) =>
 ck (0 ≤ (IntKind.u8.wrap x6) ∧ (IntKind.u8.wrap x6) < 256) <|
 ck (InI (x7 + (IntKind.i64.wrap (len8s.getD ((IntKind.u8.wrap x6)).toNat 0)))) <|
 some (x7 + (IntKind.i64.wrap (len8s.getD ((IntKind.u8.wrap x6)).toNat 0)))
def bits_Len32_P (out : Int) (d : D) (H : List HL) : Prop := d = .v (.int .i64 out) ∧ H = []
theorem bits_Len32_I (out : Int) : IndepP (bits_Len32_P out) := IndepP.of (by rintro _ _ ⟨rfl, rfl⟩; exact ⟨inferInstance, inferInstance⟩)
set_option maxRecDepth 100000 in
set_option maxHeartbeats 4000000 in
theorem bits_Len32_spec (p0 : Int) {out : Int} (H : bits_Len32_F p0 = some out) : Does Try.prog 88 [.v (.int .u32 p0)] [] (bits_Len32_P out) := by
 unfold bits_Len32_F at H
 refine Does.intro Try.func88 rfl Try.ntmps88 rfl fun w0 I0 => ?_
 refine GoC.seq ?_
 refine GoC.region ?_
 refine GoO.pure (ps_assign rfl rfl) ?_
 refine GoO.nil ?_
 refine GoK.code ?_
 have hb := bind_l H; clear H
 obtain ⟨⟨x1, x2⟩, H, HK3⟩ := hb
 refine GoC.seqJ [] [] (fun v h => v = [(0, .v (.int .u32 x1)), (2, .v (.int .i64 x2))] ∧ h = []) ?_ ?_
 refine GoC.seq ?_
 refine GoC.region ?_
 refine GoO.pure (ps_move rfl rfl) ?_
 refine GoO.pure (ps_geq rfl rfl rfl) ?_
 refine GoO.nil ?_
 refine GoK.code ?_
 refine GoC.condD rfl (fun h5 => ?_) (fun h5 => ?_)
 replace H := ite_t h5 H
 refine GoC.seq ?_
 refine GoC.region ?_
 refine GoO.pure (ps_move rfl rfl) ?_
 refine GoO.pure (ps_shr rfl rfl rfl (by decide)) ?_
 refine GoO.pure (ps_assign rfl rfl) ?_
 refine GoO.nil ?_
 refine GoK.code ?_
 refine GoC.region ?_
 refine GoO.pure (ps_assign rfl rfl) ?_
 refine GoO.nil ?_
 cases H
 exact GoK.meet ⟨rfl, rfl⟩ (EnvD.eq rfl (EnvD.eq rfl (EnvD.nil))) (TkD.nil _)
 replace H := ite_f h5 H
 refine GoC.skip ?_
 cases H
 exact GoK.meet ⟨rfl, rfl⟩ (EnvD.eq rfl (EnvD.eq rfl (EnvD.nil))) (TkD.nil _)
 rintro v h ⟨rfl, rfl⟩
 have H := HK3; clear HK3
 have hb := bind_l H; clear H
 obtain ⟨⟨x6, x7⟩, H, HK8⟩ := hb
 refine GoC.seqJ [] [] (fun v h => v = [(0, .v (.int .u32 x6)), (2, .v (.int .i64 x7))] ∧ h = []) ?_ ?_
 refine GoC.seq ?_
 refine GoC.region ?_
 refine GoO.pure (ps_move rfl rfl) ?_
 refine GoO.pure (ps_geq rfl rfl rfl) ?_
 refine GoO.nil ?_
 refine GoK.code ?_
 refine GoC.condD rfl (fun h10 => ?_) (fun h10 => ?_)
 replace H := ite_t h10 H
 refine GoC.seq ?_
 refine GoC.region ?_
 refine GoO.pure (ps_move rfl rfl) ?_
 refine GoO.pure (ps_shr rfl rfl rfl (by decide)) ?_
 refine GoO.pure (ps_assign rfl rfl) ?_
 refine GoO.nil ?_
 refine GoK.code ?_
 refine GoC.region ?_
 refine GoO.pure (ps_move rfl rfl) ?_
 have c11 := ck_l H; replace H := ck_r H
 refine GoO.pure (ps_add rfl rfl rfl c11) ?_
 refine GoO.pure (ps_assign rfl rfl) ?_
 refine GoO.nil ?_
 cases H
 exact GoK.meet ⟨rfl, rfl⟩ (EnvD.eq rfl (EnvD.eq rfl (EnvD.nil))) (TkD.nil _)
 replace H := ite_f h10 H
 refine GoC.skip ?_
 cases H
 exact GoK.meet ⟨rfl, rfl⟩ (EnvD.eq rfl (EnvD.eq rfl (EnvD.nil))) (TkD.nil _)
 rintro v h ⟨rfl, rfl⟩
 have H := HK8; clear HK8
 refine GoC.seq ?_
 refine GoC.region ?_
 refine GoO.pure (ps_move rfl rfl) ?_
 refine GoO.pure (ps_move rfl rfl) ?_
 refine GoO.pure (ps_convK rfl rfl) ?_
 have c12 := ck_l H; replace H := ck_r H
 refine GoO.pure (ps_index8 (by kernel_rfl) rfl rfl (by kernel_rfl) c12 rfl) ?_
 refine GoO.pure (ps_convK rfl rfl) ?_
 have c13 := ck_l H; replace H := ck_r H
 refine GoO.pure (ps_add rfl rfl rfl c13) ?_
 refine GoO.pure (ps_assign rfl rfl) ?_
 refine GoO.nil ?_
 refine GoK.code ?_
 obtain rfl := Option.some.inj H
 exact GoC.retL (ds := [.v (.int .i64 (x7 + (IntKind.i64.wrap (len8s.getD ((IntKind.u8.wrap x6)).toNat 0))))]) Try.results88 (ResL.cons (ResD.tmp rfl) (ResL.nil)) (Take.nil _) ⟨rfl, rfl⟩

def bits_Len64_F (p0 : Int) : Option (Int) :=
 ((
  if 4294967296 ≤ p0 then
   some ((Int.fdiv p0 (2 ^ min 32 64)), 32)
  else
   some (p0, 0)) : Option (Int × Int)).bind fun (x1, x2) =>
 ((
  if 65536 ≤ x1 then
   ck (InI (x2 + 16)) <|
   some ((Int.fdiv x1 (2 ^ min 16 64)), (x2 + 16))
  else
   some (x1, x2)) : Option (Int × Int)).bind fun (x6, x7) =>
 ((
  if 256 ≤ x6 then
   ck (InI (x7 + 8)) <|
   some ((Int.fdiv x6 (2 ^ min 8 64)), (x7 + 8))
  else
   some (x6, x7)) : Option (Int × Int)).bind fun (x12, x13) =>
 ck (0 ≤ (IntKind.u8.wrap x12) ∧ (IntKind.u8.wrap x12) < 256) <|
 ck (InI (x13 + (IntKind.i64.wrap (len8s.getD ((IntKind.u8.wrap x12)).toNat 0)))) <|
 some (x13 + (IntKind.i64.wrap (len8s.getD ((IntKind.u8.wrap x12)).toNat 0)))
def bits_Len64_P (out : Int) (d : D) (H : List HL) : Prop := d = .v (.int .i64 out) ∧ H = []
theorem bits_Len64_I (out : Int) : IndepP (bits_Len64_P out) := IndepP.of (by rintro _ _ ⟨rfl, rfl⟩; exact ⟨inferInstance, inferInstance⟩)
set_option maxRecDepth 100000 in
set_option maxHeartbeats 4000000 in
theorem bits_Len64_spec (p0 : Int) {out : Int} (H : bits_Len64_F p0 = some out) : Does Try.prog 89 [.v (.int .u64 p0)] [] (bits_Len64_P out) := by
 unfold bits_Len64_F at H
 refine Does.intro Try.func89 rfl Try.ntmps89 rfl fun w0 I0 => ?_
 refine GoC.seq ?_
 refine GoC.region ?_
 refine GoO.pure (ps_assign rfl rfl) ?_
 refine GoO.nil ?_
 refine GoK.code ?_
 have hb := bind_l H; clear H
 obtain ⟨⟨x1, x2⟩, H, HK3⟩ := hb
 refine GoC.seqJ [] [] (fun v h => v = [(0, .v (.int .u64 x1)), (2, .v (.int .i64 x2))] ∧ h = []) ?_ ?_
 refine GoC.seq ?_
 refine GoC.region ?_
 refine GoO.pure (ps_move rfl rfl) ?_
 refine GoO.pure (ps_geq rfl rfl rfl) ?_
 refine GoO.nil ?_
 refine GoK.code ?_
 refine GoC.condD rfl (fun h5 => ?_) (fun h5 => ?_)
 replace H := ite_t h5 H
 refine GoC.seq ?_
 refine GoC.region ?_
 refine GoO.pure (ps_move rfl rfl) ?_
 refine GoO.pure (ps_shr rfl rfl rfl (by decide)) ?_
 refine GoO.pure (ps_assign rfl rfl) ?_
 refine GoO.nil ?_
 refine GoK.code ?_
 refine GoC.region ?_
 refine GoO.pure (ps_assign rfl rfl) ?_
 refine GoO.nil ?_
 cases H
 exact GoK.meet ⟨rfl, rfl⟩ (EnvD.eq rfl (EnvD.eq rfl (EnvD.nil))) (TkD.nil _)
 replace H := ite_f h5 H
 refine GoC.skip ?_
 cases H
 exact GoK.meet ⟨rfl, rfl⟩ (EnvD.eq rfl (EnvD.eq rfl (EnvD.nil))) (TkD.nil _)
 rintro v h ⟨rfl, rfl⟩
 have H := HK3; clear HK3
 have hb := bind_l H; clear H
 obtain ⟨⟨x6, x7⟩, H, HK8⟩ := hb
 refine GoC.seqJ [] [] (fun v h => v = [(0, .v (.int .u64 x6)), (2, .v (.int .i64 x7))] ∧ h = []) ?_ ?_
 refine GoC.seq ?_
 refine GoC.region ?_
 refine GoO.pure (ps_move rfl rfl) ?_
 refine GoO.pure (ps_geq rfl rfl rfl) ?_
 refine GoO.nil ?_
 refine GoK.code ?_
 refine GoC.condD rfl (fun h10 => ?_) (fun h10 => ?_)
 replace H := ite_t h10 H
 refine GoC.seq ?_
 refine GoC.region ?_
 refine GoO.pure (ps_move rfl rfl) ?_
 refine GoO.pure (ps_shr rfl rfl rfl (by decide)) ?_
 refine GoO.pure (ps_assign rfl rfl) ?_
 refine GoO.nil ?_
 refine GoK.code ?_
 refine GoC.region ?_
 refine GoO.pure (ps_move rfl rfl) ?_
 have c11 := ck_l H; replace H := ck_r H
 refine GoO.pure (ps_add rfl rfl rfl c11) ?_
 refine GoO.pure (ps_assign rfl rfl) ?_
 refine GoO.nil ?_
 cases H
 exact GoK.meet ⟨rfl, rfl⟩ (EnvD.eq rfl (EnvD.eq rfl (EnvD.nil))) (TkD.nil _)
 replace H := ite_f h10 H
 refine GoC.skip ?_
 cases H
 exact GoK.meet ⟨rfl, rfl⟩ (EnvD.eq rfl (EnvD.eq rfl (EnvD.nil))) (TkD.nil _)
 rintro v h ⟨rfl, rfl⟩
 have H := HK8; clear HK8
 have hb := bind_l H; clear H
 obtain ⟨⟨x12, x13⟩, H, HK14⟩ := hb
 refine GoC.seqJ [] [] (fun v h => v = [(0, .v (.int .u64 x12)), (2, .v (.int .i64 x13))] ∧ h = []) ?_ ?_
 refine GoC.seq ?_
 refine GoC.region ?_
 refine GoO.pure (ps_move rfl rfl) ?_
 refine GoO.pure (ps_geq rfl rfl rfl) ?_
 refine GoO.nil ?_
 refine GoK.code ?_
 refine GoC.condD rfl (fun h16 => ?_) (fun h16 => ?_)
 replace H := ite_t h16 H
 refine GoC.seq ?_
 refine GoC.region ?_
 refine GoO.pure (ps_move rfl rfl) ?_
 refine GoO.pure (ps_shr rfl rfl rfl (by decide)) ?_
 refine GoO.pure (ps_assign rfl rfl) ?_
 refine GoO.nil ?_
 refine GoK.code ?_
 refine GoC.region ?_
 refine GoO.pure (ps_move rfl rfl) ?_
 have c17 := ck_l H; replace H := ck_r H
 refine GoO.pure (ps_add rfl rfl rfl c17) ?_
 refine GoO.pure (ps_assign rfl rfl) ?_
 refine GoO.nil ?_
 cases H
 exact GoK.meet ⟨rfl, rfl⟩ (EnvD.eq rfl (EnvD.eq rfl (EnvD.nil))) (TkD.nil _)
 replace H := ite_f h16 H
 refine GoC.skip ?_
 cases H
 exact GoK.meet ⟨rfl, rfl⟩ (EnvD.eq rfl (EnvD.eq rfl (EnvD.nil))) (TkD.nil _)
 rintro v h ⟨rfl, rfl⟩
 have H := HK14; clear HK14
 refine GoC.seq ?_
 refine GoC.region ?_
 refine GoO.pure (ps_move rfl rfl) ?_
 refine GoO.pure (ps_move rfl rfl) ?_
 refine GoO.pure (ps_convK rfl rfl) ?_
 have c18 := ck_l H; replace H := ck_r H
 refine GoO.pure (ps_index8 (by kernel_rfl) rfl rfl (by kernel_rfl) c18 rfl) ?_
 refine GoO.pure (ps_convK rfl rfl) ?_
 have c19 := ck_l H; replace H := ck_r H
 refine GoO.pure (ps_add rfl rfl rfl c19) ?_
 refine GoO.pure (ps_assign rfl rfl) ?_
 refine GoO.nil ?_
 refine GoK.code ?_
 obtain rfl := Option.some.inj H
 exact GoC.retL (ds := [.v (.int .i64 (x13 + (IntKind.i64.wrap (len8s.getD ((IntKind.u8.wrap x12)).toNat 0))))]) Try.results89 (ResL.cons (ResD.tmp rfl) (ResL.nil)) (Take.nil _) ⟨rfl, rfl⟩

def bits_Len_F (p0 : Int) : Option (Int) :=
 (bits_Len64_F p0).bind fun r1 =>
 some r1
def bits_Len_P (out : Int) (d : D) (H : List HL) : Prop := d = .v (.int .i64 out) ∧ H = []
theorem bits_Len_I (out : Int) : IndepP (bits_Len_P out) := IndepP.of (by rintro _ _ ⟨rfl, rfl⟩; exact ⟨inferInstance, inferInstance⟩)
set_option maxRecDepth 100000 in
set_option maxHeartbeats 4000000 in
theorem bits_Len_spec (p0 : Int) {out : Int} (H : bits_Len_F p0 = some out) : Does Try.prog 67 [.v (.int .u64 p0)] [] (bits_Len_P out) := by
 unfold bits_Len_F at H
 refine Does.intro Try.func67 rfl Try.ntmps67 rfl fun w0 I0 => ?_
 refine GoC.seq ?_
 refine GoC.region ?_
 refine GoO.pure (ps_assign rfl rfl) ?_
 refine GoO.nil ?_
 refine GoK.code ?_
 refine GoC.seq ?_
 refine GoC.condF rfl ?_
 refine GoC.skip ?_
 refine GoK.code ?_
 refine GoC.seq ?_
 refine GoC.region ?_
 refine GoO.pure (ps_move rfl rfl) ?_
 have hb := bind_l H; clear H
 obtain ⟨r1, e2, H⟩ := hb
 refine GoO.effC (ef_call rfl (Take.nil _) (Take.nil _) (bits_Len64_spec p0 e2) (LendL.cons (Lend.refl _ _) (LendL.nil)) rfl (bits_Len64_I (r1))) (fun rr HH hp => ?_)
 obtain ⟨rfl, rfl⟩ := hp
 refine GoO.pure (ps_assign rfl rfl) ?_
 refine GoO.nil ?_
 refine GoK.code ?_
 obtain rfl := Option.some.inj H
 exact GoC.retL (ds := [.v (.int .i64 r1)]) Try.results67 (ResL.cons (ResD.tmp rfl) (ResL.nil)) (Take.nil _) ⟨rfl, rfl⟩

def cmp_isNaN_int_F (p0 : Int) : Option (Bool) :=
 some (decide (p0 ≠ p0))
def cmp_isNaN_int_P (out : Bool) (d : D) (H : List HL) : Prop := d = .v (.bool out) ∧ H = []
theorem cmp_isNaN_int_I (out : Bool) : IndepP (cmp_isNaN_int_P out) := IndepP.of (by rintro _ _ ⟨rfl, rfl⟩; exact ⟨inferInstance, inferInstance⟩)
set_option maxRecDepth 100000 in
set_option maxHeartbeats 4000000 in
theorem cmp_isNaN_int_spec (p0 : Int) {out : Bool} (H : cmp_isNaN_int_F p0 = some out) : Does Try.prog 70 [.v (.int .i64 p0)] [] (cmp_isNaN_int_P out) := by
 unfold cmp_isNaN_int_F at H
 refine Does.intro Try.func70 rfl Try.ntmps70 rfl fun w0 I0 => ?_
 refine GoC.seq ?_
 refine GoC.region ?_
 refine GoO.pure (ps_assign rfl rfl) ?_
 refine GoO.nil ?_
 refine GoK.code ?_
 refine GoC.seq ?_
 refine GoC.region ?_
 refine GoO.pure (ps_move rfl rfl) ?_
 refine GoO.pure (ps_move rfl rfl) ?_
 refine GoO.pure (ps_neq rfl rfl rfl) ?_
 refine GoO.pure (ps_assign rfl rfl) ?_
 refine GoO.nil ?_
 refine GoK.code ?_
 obtain rfl := Option.some.inj H
 exact GoC.retL (ds := [.v (.bool (decide (p0 ≠ p0)))]) Try.results70 (ResL.cons (ResD.tmp rfl) (ResL.nil)) (Take.nil _) ⟨rfl, rfl⟩

def cmp_Less_int_F (p0 : Int) (p1 : Int) : Option (Bool) :=
 (cmp_isNaN_int_F p0).bind fun r1 =>
 if r1 = true then
  (cmp_isNaN_int_F p1).bind fun r4 =>
  if (!r4) = true then
   some true
  else
   some (decide (p0 < p1))
 else
  some (decide (p0 < p1))
def cmp_Less_int_P (out : Bool) (d : D) (H : List HL) : Prop := d = .v (.bool out) ∧ H = []
theorem cmp_Less_int_I (out : Bool) : IndepP (cmp_Less_int_P out) := IndepP.of (by rintro _ _ ⟨rfl, rfl⟩; exact ⟨inferInstance, inferInstance⟩)
set_option maxRecDepth 100000 in
set_option maxHeartbeats 4000000 in
theorem cmp_Less_int_spec (p0 : Int) (p1 : Int) {out : Bool} (H : cmp_Less_int_F p0 p1 = some out) : Does Try.prog 85 [.v (.int .i64 p0), .v (.int .i64 p1)] [] (cmp_Less_int_P out) := by
 unfold cmp_Less_int_F at H
 refine Does.intro Try.func85 rfl Try.ntmps85 rfl fun w0 I0 => ?_
 refine GoC.seq ?_
 refine GoC.region ?_
 refine GoO.pure (ps_assign rfl rfl) ?_
 refine GoO.nil ?_
 refine GoK.code ?_
 refine GoC.seq ?_
 refine GoC.region ?_
 refine GoO.pure (ps_move rfl rfl) ?_
 have hb := bind_l H; clear H
 obtain ⟨r1, e2, H⟩ := hb
 refine GoO.effC (ef_call rfl (Take.nil _) (Take.nil _) (cmp_isNaN_int_spec p0 e2) (LendL.cons (Lend.refl _ _) (LendL.nil)) rfl (cmp_isNaN_int_I (r1))) (fun rr HH hp => ?_)
 obtain ⟨rfl, rfl⟩ := hp
 refine GoO.pure (ps_move rfl rfl) ?_
 refine GoO.guard rfl rfl rfl rfl (fun h3 => ?_) (fun h3 => ?_)
 replace H := itb_t h3 H
 refine GoO.pure (ps_move rfl rfl) ?_
 refine GoO.guardT rfl rfl rfl ?_
 have hb := bind_l H; clear H
 obtain ⟨r4, e5, H⟩ := hb
 refine GoO.effC (ef_call rfl (Take.nil _) (Take.nil _) (cmp_isNaN_int_spec p1 e5) (LendL.cons (Lend.refl _ _) (LendL.nil)) rfl (cmp_isNaN_int_I (r4))) (fun rr HH hp => ?_)
 obtain ⟨rfl, rfl⟩ := hp
 refine GoO.guardT rfl rfl rfl ?_
 refine GoO.pure (ps_not rfl rfl) ?_
 refine GoO.pure (ps_pickT rfl rfl rfl) ?_
 refine GoO.pure (ps_move rfl rfl) ?_
 refine GoO.guard rfl rfl rfl rfl (fun h6 => ?_) (fun h6 => ?_)
 replace H := itb_f h6 H
 refine GoO.pure (ps_move rfl rfl) ?_
 refine GoO.guardT rfl rfl rfl ?_
 refine GoO.pure (ps_move rfl rfl) ?_
 refine GoO.guardT rfl rfl rfl ?_
 refine GoO.pure (ps_lss rfl rfl rfl) ?_
 refine GoO.pure (ps_pickF rfl rfl rfl) ?_
 refine GoO.pure (ps_assign rfl rfl) ?_
 refine GoO.nil ?_
 refine GoK.code ?_
 obtain rfl := Option.some.inj H
 exact GoC.retL (ds := [.v (.bool (decide (p0 < p1)))]) Try.results85 (ResL.cons (ResD.tmp rfl) (ResL.nil)) (Take.nil _) ⟨rfl, rfl⟩
 replace H := itb_t h6 H
 refine GoO.guardF rfl rfl rfl rfl ?_
 refine GoO.guardF rfl rfl rfl rfl ?_
 refine GoO.pure (ps_pickT rfl rfl rfl) ?_
 refine GoO.pure (ps_assign rfl rfl) ?_
 refine GoO.nil ?_
 refine GoK.code ?_
 obtain rfl := Option.some.inj H
 exact GoC.retL (ds := [.v (.bool true)]) Try.results85 (ResL.cons (ResD.tmp rfl) (ResL.nil)) (Take.nil _) ⟨rfl, rfl⟩
 replace H := itb_f h3 H
 refine GoO.guardF rfl rfl rfl rfl ?_
 refine GoO.guardF rfl rfl rfl rfl ?_
 refine GoO.pure (ps_pickF rfl rfl rfl) ?_
 refine GoO.pure (ps_move rfl rfl) ?_
 refine GoO.guardT rfl rfl rfl ?_
 refine GoO.pure (ps_move rfl rfl) ?_
 refine GoO.guardT rfl rfl rfl ?_
 refine GoO.pure (ps_move rfl rfl) ?_
 refine GoO.guardT rfl rfl rfl ?_
 refine GoO.pure (ps_lss rfl rfl rfl) ?_
 refine GoO.pure (ps_pickF rfl rfl rfl) ?_
 refine GoO.pure (ps_assign rfl rfl) ?_
 refine GoO.nil ?_
 refine GoK.code ?_
 obtain rfl := Option.some.inj H
 exact GoC.retL (ds := [.v (.bool (decide (p0 < p1)))]) Try.results85 (ResL.cons (ResD.tmp rfl) (ResL.nil)) (Take.nil _) ⟨rfl, rfl⟩

def slices_nextPowerOfTwo_F (p0 : Int) : Option (Int) :=
 (bits_Len_F (IntKind.u64.wrap p0)).bind fun r1 =>
 ck (0 ≤ r1) <|
 some (IntKind.u64.wrap (1 * 2 ^ min r1.toNat 64))
def slices_nextPowerOfTwo_P (out : Int) (d : D) (H : List HL) : Prop := d = .v (.int .u64 out) ∧ H = []
theorem slices_nextPowerOfTwo_I (out : Int) : IndepP (slices_nextPowerOfTwo_P out) := IndepP.of (by rintro _ _ ⟨rfl, rfl⟩; exact ⟨inferInstance, inferInstance⟩)
set_option maxRecDepth 100000 in
set_option maxHeartbeats 4000000 in
theorem slices_nextPowerOfTwo_spec (p0 : Int) {out : Int} (H : slices_nextPowerOfTwo_F p0 = some out) : Does Try.prog 102 [.v (.int .i64 p0)] [] (slices_nextPowerOfTwo_P out) := by
 unfold slices_nextPowerOfTwo_F at H
 refine Does.intro Try.func102 rfl Try.ntmps102 rfl fun w0 I0 => ?_
 refine GoC.seq ?_
 refine GoC.region ?_
 refine GoO.pure (ps_assign rfl rfl) ?_
 refine GoO.nil ?_
 refine GoK.code ?_
 refine GoC.seq ?_
 refine GoC.region ?_
 refine GoO.pure (ps_move rfl rfl) ?_
 refine GoO.pure (ps_convK rfl rfl) ?_
 have hb := bind_l H; clear H
 obtain ⟨r1, e2, H⟩ := hb
 refine GoO.effC (ef_call rfl (Take.nil _) (Take.nil _) (bits_Len_spec (IntKind.u64.wrap p0) e2) (LendL.cons (Lend.refl _ _) (LendL.nil)) rfl (bits_Len_I (r1))) (fun rr HH hp => ?_)
 obtain ⟨rfl, rfl⟩ := hp
 have c3 := ck_l H; replace H := ck_r H
 refine GoO.pure (ps_shl rfl rfl rfl c3) ?_
 refine GoO.pure (ps_assign rfl rfl) ?_
 refine GoO.nil ?_
 refine GoK.code ?_
 obtain rfl := Option.some.inj H
 exact GoC.retL (ds := [.v (.int .u64 (IntKind.u64.wrap (1 * 2 ^ min r1.toNat 64)))]) Try.results102 (ResL.cons (ResD.tmp rfl) (ResL.nil)) (Take.nil _) ⟨rfl, rfl⟩

def slices_Next_F (p0 : Int) : Option (Int × Int) :=
 some ((bitsOf .xor .u64 (bitsOf .xor .u64 (bitsOf .xor .u64 p0 (IntKind.u64.wrap (p0 * 2 ^ min 13 64))) (Int.fdiv (bitsOf .xor .u64 p0 (IntKind.u64.wrap (p0 * 2 ^ min 13 64))) (2 ^ min 7 64))) (IntKind.u64.wrap ((bitsOf .xor .u64 (bitsOf .xor .u64 p0 (IntKind.u64.wrap (p0 * 2 ^ min 13 64))) (Int.fdiv (bitsOf .xor .u64 p0 (IntKind.u64.wrap (p0 * 2 ^ min 13 64))) (2 ^ min 7 64))) * 2 ^ min 17 64))), (bitsOf .xor .u64 (bitsOf .xor .u64 (bitsOf .xor .u64 p0 (IntKind.u64.wrap (p0 * 2 ^ min 13 64))) (Int.fdiv (bitsOf .xor .u64 p0 (IntKind.u64.wrap (p0 * 2 ^ min 13 64))) (2 ^ min 7 64))) (IntKind.u64.wrap ((bitsOf .xor .u64 (bitsOf .xor .u64 p0 (IntKind.u64.wrap (p0 * 2 ^ min 13 64))) (Int.fdiv (bitsOf .xor .u64 p0 (IntKind.u64.wrap (p0 * 2 ^ min 13 64))) (2 ^ min 7 64))) * 2 ^ min 17 64))))
def slices_Next_P (out : Int × Int) (βp0 : BK) (d : D) (H : List HL) : Prop := d = .v (.int .u64 out.1) ∧ H = [.one βp0 152 1 (st1 (nth [.v (.int .u64 out.2)]))]
theorem slices_Next_I (out : Int × Int) (βp0 : BK) : IndepP (slices_Next_P out βp0) := IndepP.of (by rintro _ _ ⟨rfl, rfl⟩; exact ⟨inferInstance, inferInstance⟩)
set_option maxRecDepth 100000 in
set_option maxHeartbeats 4000000 in
theorem slices_Next_spec (p0 : Int) (βp0 : BK) {out : Int × Int} (H : slices_Next_F p0 = some out) : Does Try.prog 103 [.ptr βp0 1 0 0] [.one βp0 152 1 (st1 (nth [.v (.int .u64 p0)]))] (slices_Next_P out βp0) := by
 unfold slices_Next_F at H
 refine Does.intro Try.func103 rfl Try.ntmps103 rfl fun w0 I0 => ?_
 refine GoC.seq ?_
 refine GoC.region ?_
 refine GoO.pure (ps_assign rfl rfl) ?_
 refine GoO.nil ?_
 refine GoK.code ?_
 refine GoC.seq ?_
 refine GoC.drawP (.q 0 (.q 1 (.q 3 (.q 4 (.two 2 5 (.one 5 (.q 6 (.q 7 (.q 8 (.one 9 (.done)))))) (.q 6 (.one 2 (.q 7 (.q 8 (.one 9 (.done))))))))))) [] follows (by kernel_rfl) (Take.nil _) ?_
 refine GoP.qN rfl (ps_move rfl rfl) ?_
 refine GoP.qN rfl (ps_nilCheck rfl rfl) ?_
 refine GoP.qN rfl (ps_move rfl rfl) ?_
 refine GoP.qN rfl (ps_nilCheck rfl rfl) ?_
 apply GoP.fork0
 exact rfl
 exact rfl
 exact trivial
 exact trivial
 exact Eff.pure (H1 := [.one βp0 152 1 (st1 (nth [.v (.int .u64 p0)]))]) (ps_load rfl At.p0 At.p0 Nat.zero_lt_one rfl rfl)
 exact Eff.pure (H1 := [.one βp0 152 1 (st1 (nth [.v (.int .u64 p0)]))]) (ps_load rfl At.p0 At.p0 Nat.zero_lt_one rfl rfl)
 exact (Take.nil _)
 exact (Take.nil _)
 intro hQ
 rintro _ rfl
 refine GoP.oneN rfl (ps_load rfl At.p0 At.p0 Nat.zero_lt_one rfl rfl) (Take.nil _) ?_
 refine GoP.qN rfl (ps_shl rfl rfl rfl (by decide)) ?_
 refine GoP.qN rfl (ps_xor rfl rfl rfl) ?_
 refine GoP.qN rfl (ps_nilCheck rfl rfl) ?_
 refine GoP.one1 rfl trivial (ef_store rfl rfl rfl At.p0 upd_st1 Nat.zero_lt_one rfl) (Take.cons _ _ _ _ _ Rem.p0 (Take.nil _)) ?_
 refine GoP.leD (Le.reH At.p0 (HLe.st (g' := nth [.v (.int .u64 (bitsOf .xor .u64 p0 (IntKind.u64.wrap (p0 * 2 ^ min 13 64))))]) ⟨trivial, DLe.refl _⟩)) ?_
 exact GoP.done (hQ)
 intro hQ
 rintro _ rfl
 refine GoP.qN rfl (ps_shl rfl rfl rfl (by decide)) ?_
 refine GoP.oneN rfl (ps_load rfl At.p0 At.p0 Nat.zero_lt_one rfl rfl) (Take.nil _) ?_
 refine GoP.qN rfl (ps_xor rfl rfl rfl) ?_
 refine GoP.qN rfl (ps_nilCheck rfl rfl) ?_
 refine GoP.one1 rfl trivial (ef_store rfl rfl rfl At.p0 upd_st1 Nat.zero_lt_one rfl) (Take.cons _ _ _ _ _ Rem.p0 (Take.nil _)) ?_
 refine GoP.leD (Le.reH At.p0 (HLe.st (g' := nth [.v (.int .u64 (bitsOf .xor .u64 p0 (IntKind.u64.wrap (p0 * 2 ^ min 13 64))))]) ⟨trivial, DLe.refl _⟩)) ?_
 refine GoP.done (GoK.le ?_ (hQ))
 refine Le.ofDW ?_ (TkD.cons _ _ _ _ _ Rem.p0 (HLe.refl _) (TkD.nil _))
 repeat (first | exact EnvLeW.nil | refine EnvLeW.cons rfl ?_ | refine EnvLeW.skip rfl ?_)
 refine GoK.code ?_
 refine GoC.seq ?_
 refine GoC.drawP (.q 0 (.q 1 (.q 3 (.q 4 (.two 2 5 (.one 5 (.q 6 (.q 7 (.q 8 (.one 9 (.done)))))) (.q 6 (.one 2 (.q 7 (.q 8 (.one 9 (.done))))))))))) [] follows (by kernel_rfl) (Take.nil _) ?_
 refine GoP.qN rfl (ps_move rfl rfl) ?_
 refine GoP.qN rfl (ps_nilCheck rfl rfl) ?_
 refine GoP.qN rfl (ps_move rfl rfl) ?_
 refine GoP.qN rfl (ps_nilCheck rfl rfl) ?_
 apply GoP.fork0
 exact rfl
 exact rfl
 exact trivial
 exact trivial
 exact Eff.pure (H1 := [.one βp0 152 1 (st1 (nth [.v (.int .u64 (bitsOf .xor .u64 p0 (IntKind.u64.wrap (p0 * 2 ^ min 13 64))))]))]) (ps_load rfl At.p0 At.p0 Nat.zero_lt_one rfl rfl)
 exact Eff.pure (H1 := [.one βp0 152 1 (st1 (nth [.v (.int .u64 (bitsOf .xor .u64 p0 (IntKind.u64.wrap (p0 * 2 ^ min 13 64))))]))]) (ps_load rfl At.p0 At.p0 Nat.zero_lt_one rfl rfl)
 exact (Take.nil _)
 exact (Take.nil _)
 intro hQ
 rintro _ rfl
 refine GoP.oneN rfl (ps_load rfl At.p0 At.p0 Nat.zero_lt_one rfl rfl) (Take.nil _) ?_
 refine GoP.qN rfl (ps_shr rfl rfl rfl (by decide)) ?_
 refine GoP.qN rfl (ps_xor rfl rfl rfl) ?_
 refine GoP.qN rfl (ps_nilCheck rfl rfl) ?_
 refine GoP.one1 rfl trivial (ef_store rfl rfl rfl At.p0 upd_st1 Nat.zero_lt_one rfl) (Take.cons _ _ _ _ _ Rem.p0 (Take.nil _)) ?_
 refine GoP.leD (Le.reH At.p0 (HLe.st (g' := nth [.v (.int .u64 (bitsOf .xor .u64 (bitsOf .xor .u64 p0 (IntKind.u64.wrap (p0 * 2 ^ min 13 64))) (Int.fdiv (bitsOf .xor .u64 p0 (IntKind.u64.wrap (p0 * 2 ^ min 13 64))) (2 ^ min 7 64))))]) ⟨trivial, DLe.refl _⟩)) ?_
 exact GoP.done (hQ)
 intro hQ
 rintro _ rfl
 refine GoP.qN rfl (ps_shr rfl rfl rfl (by decide)) ?_
 refine GoP.oneN rfl (ps_load rfl At.p0 At.p0 Nat.zero_lt_one rfl rfl) (Take.nil _) ?_
 refine GoP.qN rfl (ps_xor rfl rfl rfl) ?_
 refine GoP.qN rfl (ps_nilCheck rfl rfl) ?_
 refine GoP.one1 rfl trivial (ef_store rfl rfl rfl At.p0 upd_st1 Nat.zero_lt_one rfl) (Take.cons _ _ _ _ _ Rem.p0 (Take.nil _)) ?_
 refine GoP.leD (Le.reH At.p0 (HLe.st (g' := nth [.v (.int .u64 (bitsOf .xor .u64 (bitsOf .xor .u64 p0 (IntKind.u64.wrap (p0 * 2 ^ min 13 64))) (Int.fdiv (bitsOf .xor .u64 p0 (IntKind.u64.wrap (p0 * 2 ^ min 13 64))) (2 ^ min 7 64))))]) ⟨trivial, DLe.refl _⟩)) ?_
 refine GoP.done (GoK.le ?_ (hQ))
 refine Le.ofDW ?_ (TkD.cons _ _ _ _ _ Rem.p0 (HLe.refl _) (TkD.nil _))
 repeat (first | exact EnvLeW.nil | refine EnvLeW.cons rfl ?_ | refine EnvLeW.skip rfl ?_)
 refine GoK.code ?_
 refine GoC.seq ?_
 refine GoC.drawP (.q 0 (.q 1 (.q 3 (.q 4 (.two 2 5 (.one 5 (.q 6 (.q 7 (.q 8 (.one 9 (.done)))))) (.q 6 (.one 2 (.q 7 (.q 8 (.one 9 (.done))))))))))) [] follows (by kernel_rfl) (Take.nil _) ?_
 refine GoP.qN rfl (ps_move rfl rfl) ?_
 refine GoP.qN rfl (ps_nilCheck rfl rfl) ?_
 refine GoP.qN rfl (ps_move rfl rfl) ?_
 refine GoP.qN rfl (ps_nilCheck rfl rfl) ?_
 apply GoP.fork0
 exact rfl
 exact rfl
 exact trivial
 exact trivial
 exact Eff.pure (H1 := [.one βp0 152 1 (st1 (nth [.v (.int .u64 (bitsOf .xor .u64 (bitsOf .xor .u64 p0 (IntKind.u64.wrap (p0 * 2 ^ min 13 64))) (Int.fdiv (bitsOf .xor .u64 p0 (IntKind.u64.wrap (p0 * 2 ^ min 13 64))) (2 ^ min 7 64))))]))]) (ps_load rfl At.p0 At.p0 Nat.zero_lt_one rfl rfl)
 exact Eff.pure (H1 := [.one βp0 152 1 (st1 (nth [.v (.int .u64 (bitsOf .xor .u64 (bitsOf .xor .u64 p0 (IntKind.u64.wrap (p0 * 2 ^ min 13 64))) (Int.fdiv (bitsOf .xor .u64 p0 (IntKind.u64.wrap (p0 * 2 ^ min 13 64))) (2 ^ min 7 64))))]))]) (ps_load rfl At.p0 At.p0 Nat.zero_lt_one rfl rfl)
 exact (Take.nil _)
 exact (Take.nil _)
 intro hQ
 rintro _ rfl
 refine GoP.oneN rfl (ps_load rfl At.p0 At.p0 Nat.zero_lt_one rfl rfl) (Take.nil _) ?_
 refine GoP.qN rfl (ps_shl rfl rfl rfl (by decide)) ?_
 refine GoP.qN rfl (ps_xor rfl rfl rfl) ?_
 refine GoP.qN rfl (ps_nilCheck rfl rfl) ?_
 refine GoP.one1 rfl trivial (ef_store rfl rfl rfl At.p0 upd_st1 Nat.zero_lt_one rfl) (Take.cons _ _ _ _ _ Rem.p0 (Take.nil _)) ?_
 refine GoP.leD (Le.reH At.p0 (HLe.st (g' := nth [.v (.int .u64 (bitsOf .xor .u64 (bitsOf .xor .u64 (bitsOf .xor .u64 p0 (IntKind.u64.wrap (p0 * 2 ^ min 13 64))) (Int.fdiv (bitsOf .xor .u64 p0 (IntKind.u64.wrap (p0 * 2 ^ min 13 64))) (2 ^ min 7 64))) (IntKind.u64.wrap ((bitsOf .xor .u64 (bitsOf .xor .u64 p0 (IntKind.u64.wrap (p0 * 2 ^ min 13 64))) (Int.fdiv (bitsOf .xor .u64 p0 (IntKind.u64.wrap (p0 * 2 ^ min 13 64))) (2 ^ min 7 64))) * 2 ^ min 17 64))))]) ⟨trivial, DLe.refl _⟩)) ?_
 exact GoP.done (hQ)
 intro hQ
 rintro _ rfl
 refine GoP.qN rfl (ps_shl rfl rfl rfl (by decide)) ?_
 refine GoP.oneN rfl (ps_load rfl At.p0 At.p0 Nat.zero_lt_one rfl rfl) (Take.nil _) ?_
 refine GoP.qN rfl (ps_xor rfl rfl rfl) ?_
 refine GoP.qN rfl (ps_nilCheck rfl rfl) ?_
 refine GoP.one1 rfl trivial (ef_store rfl rfl rfl At.p0 upd_st1 Nat.zero_lt_one rfl) (Take.cons _ _ _ _ _ Rem.p0 (Take.nil _)) ?_
 refine GoP.leD (Le.reH At.p0 (HLe.st (g' := nth [.v (.int .u64 (bitsOf .xor .u64 (bitsOf .xor .u64 (bitsOf .xor .u64 p0 (IntKind.u64.wrap (p0 * 2 ^ min 13 64))) (Int.fdiv (bitsOf .xor .u64 p0 (IntKind.u64.wrap (p0 * 2 ^ min 13 64))) (2 ^ min 7 64))) (IntKind.u64.wrap ((bitsOf .xor .u64 (bitsOf .xor .u64 p0 (IntKind.u64.wrap (p0 * 2 ^ min 13 64))) (Int.fdiv (bitsOf .xor .u64 p0 (IntKind.u64.wrap (p0 * 2 ^ min 13 64))) (2 ^ min 7 64))) * 2 ^ min 17 64))))]) ⟨trivial, DLe.refl _⟩)) ?_
 refine GoP.done (GoK.le ?_ (hQ))
 refine Le.ofDW ?_ (TkD.cons _ _ _ _ _ Rem.p0 (HLe.refl _) (TkD.nil _))
 repeat (first | exact EnvLeW.nil | refine EnvLeW.cons rfl ?_ | refine EnvLeW.skip rfl ?_)
 refine GoK.code ?_
 refine GoC.seq ?_
 refine GoC.region ?_
 refine GoO.pure (ps_move rfl rfl) ?_
 refine GoO.pure (ps_nilCheck rfl rfl) ?_
 refine GoO.pure (ps_load rfl At.p0 At.p0 Nat.zero_lt_one rfl rfl) ?_
 refine GoO.pure (ps_assign rfl rfl) ?_
 refine GoO.nil ?_
 refine GoK.code ?_
 obtain rfl := Option.some.inj H
 exact GoC.retL (ds := [.v (.int .u64 (bitsOf .xor .u64 (bitsOf .xor .u64 (bitsOf .xor .u64 p0 (IntKind.u64.wrap (p0 * 2 ^ min 13 64))) (Int.fdiv (bitsOf .xor .u64 p0 (IntKind.u64.wrap (p0 * 2 ^ min 13 64))) (2 ^ min 7 64))) (IntKind.u64.wrap ((bitsOf .xor .u64 (bitsOf .xor .u64 p0 (IntKind.u64.wrap (p0 * 2 ^ min 13 64))) (Int.fdiv (bitsOf .xor .u64 p0 (IntKind.u64.wrap (p0 * 2 ^ min 13 64))) (2 ^ min 7 64))) * 2 ^ min 17 64))))]) Try.results103 (ResL.cons (ResD.tmp rfl) (ResL.nil)) (Take.cons _ _ _ _ _ Rem.p0 (Take.nil _)) ⟨rfl, rfl⟩

def slices_Grow_intL_F (n_ : Int) : Option ((List (List Int))) :=
 ((
  if n_ < 0 then
   none
  else
   some ()) : Option (Unit)).bind fun () =>
 ck (InI (0 - 0)) <|
 ck (InI (n_ - (0 - 0))) <|
 if 0 < (n_ - (0 - 0)) then
  ck (1 ≤ (n_ - (0 - 0)) ∧ (n_ - (0 - 0)) ≤ 10000000000) <|
  some (subl (List.replicate ((n_ - (0 - 0)).toNat) []) 0 0)
 else
  some []
def slices_Grow_intL_P (out : (List (List Int))) (d : D) (H : List HL) : Prop := ∃ β1 : BK, d = .own β1 1 0 out.length ∧ H = [.one β1 30 1 (row out)]
set_option maxRecDepth 100000 in
set_option maxHeartbeats 4000000 in
theorem slices_Grow_intL_spec (n_ : Int) {out : (List (List Int))} (H : slices_Grow_intL_F n_ = some out) : Does Try.prog 45 [.v (.slice none 0 0), .v (.int .i64 n_)] [] (slices_Grow_intL_P out) := by
 unfold slices_Grow_intL_F at H
 refine Does.intro Try.func45 rfl Try.ntmps45 rfl fun w0 I0 => ?_
 refine GoC.seq ?_
 refine GoC.region ?_
 refine GoO.pure (ps_assign rfl rfl) ?_
 refine GoO.nil ?_
 refine GoK.code ?_
 have hb := bind_l H; clear H
 obtain ⟨⟨⟩, H, HK1⟩ := hb
 refine GoC.seqJ [(0, .v (.slice none 0 0)), (1, .v (.int .i64 n_))] [] (fun v h => v = [] ∧ h = []) ?_ ?_
 refine GoC.seq ?_
 refine GoC.region ?_
 refine GoO.pure (ps_move rfl rfl) ?_
 refine GoO.pure (ps_lss rfl rfl rfl) ?_
 refine GoO.nil ?_
 refine GoK.code ?_
 refine GoC.condD rfl (fun h3 => ?_) (fun h3 => ?_)
 replace H := ite_t h3 H
 cases H
 replace H := ite_f h3 H
 refine GoC.skip ?_
 cases H
 exact GoK.meet ⟨rfl, rfl⟩ (EnvD.eq rfl (EnvD.eq rfl (EnvD.nil))) (TkD.nil _)
 rintro v h ⟨rfl, rfl⟩
 have H := HK1; clear HK1
 refine GoC.seq ?_
 refine GoC.seq ?_
 refine GoC.region ?_
 refine GoO.pure (ps_move rfl rfl) ?_
 refine GoO.pure (ps_move rfl rfl) ?_
 refine GoO.pure (ps_capNil rfl rfl) ?_
 refine GoO.pure (ps_move rfl rfl) ?_
 refine GoO.pure (ps_len rfl (by constructor) rfl) ?_
 have c4 := ck_l H; replace H := ck_r H
 refine GoO.pure (ps_sub rfl rfl rfl c4) ?_
 have c5 := ck_l H; replace H := ck_r H
 refine GoO.pure (ps_sub rfl rfl rfl c5) ?_
 refine GoO.pure (ps_assign rfl rfl) ?_
 refine GoO.nil ?_
 refine GoK.code ?_
 refine GoC.seq ?_
 refine GoC.region ?_
 refine GoO.pure (ps_move rfl rfl) ?_
 refine GoO.pure (ps_gtr rfl rfl rfl) ?_
 refine GoO.nil ?_
 refine GoK.code ?_
 refine GoC.condD rfl (fun h6 => ?_) (fun h6 => ?_)
 replace H := ite_t h6 H
 refine GoC.region ?_
 refine GoO.pure (ps_move rfl rfl) ?_
 refine GoO.pure (ps_move rfl rfl) ?_
 refine GoO.pure (ps_capNil rfl rfl) ?_
 refine GoO.pure (ps_sliceNil rfl rfl rfl) ?_
 refine GoO.pure (ps_move rfl rfl) ?_
 have c8 := ck_l H; replace H := ck_r H
 refine GoO.effB (ef_appendZ rfl rfl c8 rfl rfl rfl) (fun β7 => ?_)
 refine GoO.le (Le.reH At.p0 (HLe.zeros (α := (List Int)) ⟨trivial, DLe.nilSl⟩)) ?_
 refine GoO.pure (ps_move rfl rfl) ?_
 refine GoO.pure (ps_len rfl (by constructor) rfl) ?_
 refine GoO.pure (ps_slice rfl (Bd.no _) (Bd.nat _ _ 0 _ rfl) (Nat.zero_le _) (Nat.zero_le _) rfl) ?_
 refine GoO.le (Le.shift At.p0 (by first | omega | (simp only [subl_length, cpl_length, List.length_set, List.length_append, List.length_cons, List.length_nil, List.length_replicate, row_len]; omega) | (simp only [subl_length, cpl_length, List.length_set, List.length_append, List.length_cons, List.length_nil, List.length_replicate, row_len, eldI]; omega))) ?_
 refine GoO.le (Le.reH At.p0 (HLe.part (xs := (List.replicate ((n_ - (0 - 0)).toNat) [])) (r := 0 + 0) (len := 0) (by first | omega | (simp only [subl_length, cpl_length, List.length_set, List.length_append, List.length_cons, List.length_nil, List.length_replicate, row_len]; omega)))) ?_
 generalize (⟨β7.b, β7.o + (0 + 0) * 1, β7.s - (0 + 0)⟩ : BK) = β9
 refine GoO.pure (ps_assign rfl rfl) ?_
 refine GoO.nil ?_
 refine GoK.code ?_
 refine GoC.seq ?_
 refine GoC.region ?_
 refine GoO.pure (ps_move rfl rfl) ?_
 refine GoO.pure (ps_assign rfl rfl) ?_
 refine GoO.nil ?_
 refine GoK.code ?_
 obtain rfl := Option.some.inj H
 exact GoC.retL (ds := [.own β9 1 0 (subl (List.replicate ((n_ - (0 - 0)).toNat) []) 0 0).length]) Try.results45 (ResL.cons (ResD.le (ResD.tmp rfl) (by exact DLe.len (by first | rfl | omega | (simp only [row_len, gridC_len, rowO_len, List.length_cons, List.length_nil, List.length_replicate, List.length_nil, subl_length] <;> first | rfl | omega)))) (ResL.nil)) (Take.cons _ _ _ _ _ Rem.p0 (Take.nil _)) ⟨β9, rfl, rfl⟩
 replace H := ite_f h6 H
 refine GoC.skip ?_
 refine GoK.code ?_
 refine GoC.seq ?_
 refine GoC.region ?_
 refine GoO.pure (ps_move rfl rfl) ?_
 refine GoO.pure (ps_assign rfl rfl) ?_
 refine GoO.nil ?_
 refine GoK.code ?_
 obtain rfl := Option.some.inj H
 refine GoC.le (le_row0 30 1 (row ([] : List (List Int))) rfl) ?_
 exact GoC.retL (ds := [.own ⟨0, 0, 0⟩ 1 0 0]) Try.results45 (ResL.cons (ResD.le (ResD.tmp rfl) (by exact DLe.nilOwn)) (ResL.nil)) (Take.cons _ _ _ _ _ Rem.p0 (Take.nil _)) ⟨⟨0, 0, 0⟩, rfl, rfl⟩

def slices_Concat_intL_B1 (ss_ : (List (List (List Int)))) : Nat → Nat → Option (Nat) := fun k7 n2 =>
 ck (InI (((n2 : Nat) : Int) + (((ss_.getD k7 []).length : Nat) : Int))) <|
 if (((n2 + (ss_.getD k7 []).length) : Nat) : Int) < 0 then
  none
 else
  some (n2 + (ss_.getD k7 []).length)
def slices_Concat_intL_B2 (ss_ : (List (List (List Int)))) : Nat → (List (List Int)) → Option ((List (List Int))) := fun k22 l17 =>
 ck (l17.length + (ss_.getD k22 []).length ≤ 5864062014805) <|
 some (l17 ++ (ss_.getD k22 []))
def slices_Concat_intL_F (ss_ : (List (List (List Int)))) : Option ((List (List Int))) :=
 (forN (slices_Concat_intL_B1 ss_) ss_.length 0 0).bind fun n6 =>
 (slices_Grow_intL_F ((n6 : Nat) : Int)).bind fun r13 =>
 (forN (slices_Concat_intL_B2 ss_) ss_.length 0 r13).bind fun l21 =>
 some l21
def slices_Concat_intL_P (out : (List (List Int))) (d : D) (H : List HL) : Prop := ∃ β1 : BK, d = .own β1 1 0 out.length ∧ H = [.one β1 30 1 (row out)]
set_option maxRecDepth 100000 in
set_option maxHeartbeats 4000000 in
theorem slices_Concat_intL_spec (ss_ : (List (List (List Int)))) {out : (List (List Int))} (H : slices_Concat_intL_F ss_ = some out) : Does Try.prog 19 [slD ss_] [] (slices_Concat_intL_P out) := by
 unfold slices_Concat_intL_F at H
 refine Does.intro Try.func19 rfl Try.ntmps19 rfl fun w0 I0 => ?_
 refine GoC.seq ?_
 refine GoC.region ?_
 refine GoO.pure (ps_assign rfl rfl) ?_
 refine GoO.nil ?_
 refine GoK.code ?_
 refine GoC.seq ?_
 refine GoC.region ?_
 refine GoO.pure (ps_assign rfl rfl) ?_
 refine GoO.nil ?_
 refine GoK.code ?_
 refine GoC.seq ?_
 refine GoC.seq ?_
 refine GoC.region ?_
 refine GoO.pure (ps_move rfl rfl) ?_
 refine GoO.pure (ps_len rfl (by constructor) rfl) ?_
 refine GoO.lenLe (n := ss_.length) (x := .tmp 9) rfl (by constructor) sl_lenLe (fun ml1 => ?_)
 refine GoO.pure (ps_move rfl rfl) ?_
 refine GoO.nil ?_
 refine GoK.code ?_
 have hb := bind_l H; clear H
 obtain ⟨n6, hl12, HK3⟩ := hb
 refine GoC.blockJ [(0, slD ss_)] [] (fun v h => v = [(3, .v (.int .i64 ((n6 : Nat) : Int)))] ∧ h = []) ?_ ?_
 refine GoC.loopJ [(0, _), (9, _), (10, _)] [] (fun mQ v h => ∃ (k7 : Nat) (n2 : Nat), (k7 + mQ = ss_.length ∧ forN (slices_Concat_intL_B1 ss_) mQ k7 n2 = some n6) ∧ v = [(11, .v (.int .i64 ((k7 : Nat) : Int))), (3, .v (.int .i64 ((n2 : Nat) : Int)))] ∧ h = []) ss_.length ⟨_, _, ⟨by omega, hl12⟩, rfl, rfl⟩ (EnvD.eq rfl (EnvD.eq rfl (EnvD.eq rfl (EnvD.eq rfl (EnvD.eq rfl (EnvD.nil)))))) (TkD.nil _) ?_
 rintro m8 v h ⟨k7, n2, ⟨hkk7, hF4⟩, rfl, rfl⟩
 refine GoC.seq ?_
 refine GoC.region ?_
 refine GoO.pure (ps_lss rfl rfl rfl) ?_
 refine GoO.nil ?_
 refine GoK.code ?_
 refine GoC.seq ?_
 refine GoC.condD rfl (fun (hk7 : (k7 : Int) < ((ss_.length : Nat) : Int)) => ?_) (fun (hk7 : ¬ (k7 : Int) < ((ss_.length : Nat) : Int)) => ?_)
 obtain ⟨m8', rfl⟩ : ∃ x, m8 = x + 1 := ⟨m8 - 1, by omega⟩
 have hb := bind_l hF4; clear hF4
 obtain ⟨qrm8, H, hF4⟩ := hb
 have hnk7 : k7 < ss_.length := by omega
 have hIk7 : InI ((k7 : Int) + 1) := inI_len hk7 ml1
 refine GoC.skip ?_
 refine GoK.code ?_
 refine GoC.seq ?_
 refine GoC.block ?_
 refine GoC.seq ?_
 refine GoC.region ?_
 refine GoO.pure (ps_indexAddrRN rfl rfl hnk7 rfl) ?_
 refine GoO.pure (ps_loadR rfl hnk7 rfl rfl) ?_
 refine GoO.pure (ps_assign rfl rfl) ?_
 refine GoO.nil ?_
 refine GoK.code ?_
 refine GoC.seq ?_
 refine GoC.region ?_
 refine GoO.pure (ps_move rfl rfl) ?_
 refine GoO.pure (ps_move rfl rfl) ?_
 refine GoO.pure (ps_len rfl (by constructor) rfl) ?_
 refine GoO.lenLe (n := (ss_.getD k7 []).length) (x := .tmp 16) rfl (by constructor) sl_lenLe (fun ml9 => ?_)
 have c10 := ck_l H; replace H := ck_r H
 refine GoO.pure (ps_add rfl rfl rfl c10) ?_
 refine GoO.pure (ps_assign rfl rfl) ?_
 refine GoO.nil ?_
 refine GoK.code ?_
 refine GoC.seq ?_
 refine GoC.region ?_
 refine GoO.pure (ps_move rfl rfl) ?_
 refine GoO.pure (ps_lss rfl rfl rfl) ?_
 refine GoO.nil ?_
 refine GoK.code ?_
 refine GoC.condD rfl (fun h11 => ?_) (fun h11 => ?_)
 replace H := ite_t h11 H
 cases H
 replace H := ite_f h11 H
 refine GoC.skip ?_
 refine GoK.blk ?_
 refine GoK.code ?_
 refine GoC.region ?_
 refine GoO.pure (ps_add rfl rfl rfl hIk7) ?_
 refine GoO.pure (ps_move rfl rfl) ?_
 refine GoO.nil ?_
 obtain rfl := Option.some.inj H
 exact GoK.againJ m8' (by omega) ⟨_, _, ⟨by omega, hF4⟩, rfl, rfl⟩ (EnvD.eq rfl (EnvD.eq rfl (EnvD.eq rfl (EnvD.eq rfl (EnvD.eq rfl (EnvD.nil)))))) (TkD.nil _)
 obtain rfl : m8 = 0 := by omega
 refine GoC.exit rfl ?_
 cases hF4
 exact GoK.meet ⟨rfl, rfl⟩ (EnvD.eq rfl (EnvD.eq rfl (EnvD.nil))) (TkD.nil _)
 rintro v h ⟨rfl, rfl⟩
 have H := HK3; clear HK3
 refine GoK.code ?_
 refine GoC.seq ?_
 refine GoC.region ?_
 refine GoO.pure (ps_move rfl rfl) ?_
 have hb := bind_l H; clear H
 obtain ⟨r13, e15, H⟩ := hb
 refine GoO.callF rfl (Take.nil _) (Take.nil _) (slices_Grow_intL_spec ((n6 : Nat) : Int) e15) (LendL.cons (Lend.refl _ _) (LendL.cons (Lend.refl _ _) (LendL.nil))) rfl nil_fps (fun rr HH hp => ?_)
 obtain ⟨β14, rfl, rfl⟩ := hp
 refine GoO.pure (ps_assign rfl rfl) ?_
 refine GoO.nil ?_
 refine GoK.code ?_
 refine GoC.seq ?_
 refine GoC.seq ?_
 refine GoC.region ?_
 refine GoO.pure (ps_move rfl rfl) ?_
 refine GoO.pure (ps_len rfl (by constructor) rfl) ?_
 refine GoO.pure (ps_move rfl rfl) ?_
 refine GoO.nil ?_
 refine GoK.code ?_
 have hb := bind_l H; clear H
 obtain ⟨l21, hl26, HK18⟩ := hb
 refine GoC.blockJ [] [] (fun v h => ∃ (β16 : BK), v = [(6, .own β16 1 0 l21.length)] ∧ h = [.one β16 30 1 (row l21)]) ?_ ?_
 refine GoC.loopJ [(25, _), (26, _)] [] (fun mQ v h => ∃ (k22 : Nat) (l17 : (List (List Int))) (β16 : BK), (k22 + mQ = ss_.length ∧ forN (slices_Concat_intL_B2 ss_) mQ k22 l17 = some l21) ∧ v = [(27, .v (.int .i64 ((k22 : Nat) : Int))), (6, .own β16 1 0 l17.length)] ∧ h = [.one β16 30 1 (row l17)]) ss_.length ⟨_, _, β14, ⟨by omega, hl26⟩, rfl, rfl⟩ (EnvD.eq rfl (EnvD.cons rfl (DLe.len (by first | rfl | omega | (simp only [row_len, gridC_len, rowO_len] <;> first | rfl | omega))) (EnvD.eq rfl (EnvD.eq rfl (EnvD.nil))))) (TkD.cons _ _ _ _ _ Rem.p0 (HLe.refl _) (TkD.nil _)) ?_
 rintro m23 v h ⟨k22, l17, β16, ⟨hkk22, hF19⟩, rfl, rfl⟩
 refine GoC.seq ?_
 refine GoC.region ?_
 refine GoO.pure (ps_lss rfl rfl rfl) ?_
 refine GoO.nil ?_
 refine GoK.code ?_
 refine GoC.seq ?_
 refine GoC.condD rfl (fun (hk22 : (k22 : Int) < ((ss_.length : Nat) : Int)) => ?_) (fun (hk22 : ¬ (k22 : Int) < ((ss_.length : Nat) : Int)) => ?_)
 obtain ⟨m23', rfl⟩ : ∃ x, m23 = x + 1 := ⟨m23 - 1, by omega⟩
 have hb := bind_l hF19; clear hF19
 obtain ⟨qrm23, H, hF19⟩ := hb
 have hnk22 : k22 < ss_.length := by omega
 have hIk22 : InI ((k22 : Int) + 1) := inI_len hk22 ml1
 refine GoC.skip ?_
 refine GoK.code ?_
 refine GoC.seq ?_
 refine GoC.block ?_
 refine GoC.seq ?_
 refine GoC.region ?_
 refine GoO.pure (ps_indexAddrRN rfl rfl hnk22 rfl) ?_
 refine GoO.pure (ps_loadR rfl hnk22 rfl rfl) ?_
 refine GoO.pure (ps_assign rfl rfl) ?_
 refine GoO.nil ?_
 refine GoK.code ?_
 refine GoC.region ?_
 refine GoO.pure (ps_move rfl rfl) ?_
 refine GoO.pure (ps_move rfl rfl) ?_
 have c25 := ck_l H; replace H := ck_r H
 refine GoO.effB (ef_append rfl rfl Rem.p0 Src.sl (cat_row (α := (List Int)) (by first | rfl | omega | (simp only [subl_length, cpl_length, List.length_set, List.length_append, List.length_cons, List.length_nil, List.length_replicate, row_len] <;> first | rfl | omega)) (by first | rfl | omega | (simp only [subl_length, cpl_length, List.length_set, List.length_append, List.length_cons, List.length_nil, List.length_replicate, row_len] <;> first | rfl | omega)) (fun _ _ _ _ => rfl)) (by first | omega | (simp only [subl_length, cpl_length, List.length_set, List.length_append, List.length_cons, List.length_nil, List.length_replicate, row_len]; omega) | (simp only [subl_length, cpl_length, List.length_set, List.length_append, List.length_cons, List.length_nil, List.length_replicate, row_len]; done)) (app_le c25 rfl) rfl rfl rfl) (fun β24 => ?_)
 refine GoO.pure (ps_assign rfl rfl) ?_
 refine GoO.nil ?_
 refine GoK.blk ?_
 refine GoK.code ?_
 refine GoC.region ?_
 refine GoO.pure (ps_add rfl rfl rfl hIk22) ?_
 refine GoO.pure (ps_move rfl rfl) ?_
 refine GoO.nil ?_
 obtain rfl := Option.some.inj H
 exact GoK.againJ m23' (by omega) ⟨_, _, β24, ⟨by omega, hF19⟩, rfl, rfl⟩ (EnvD.eq rfl (EnvD.cons rfl (DLe.len (by first | rfl | omega | (simp only [row_len, gridC_len, rowO_len, List.length_append, List.length_cons, List.length_nil, List.length_nil] <;> first | rfl | omega))) (EnvD.eq rfl (EnvD.eq rfl (EnvD.nil))))) (TkD.cons _ _ _ _ _ Rem.p0 (HLe.refl _) (TkD.nil _))
 obtain rfl : m23 = 0 := by omega
 refine GoC.exit rfl ?_
 cases hF19
 exact GoK.meet ⟨β16, rfl, rfl⟩ (EnvD.cons rfl (DLe.len (by first | rfl | omega | (simp only [row_len, gridC_len, rowO_len] <;> first | rfl | omega))) (EnvD.nil)) (TkD.cons _ _ _ _ _ Rem.p0 (HLe.refl _) (TkD.nil _))
 rintro v h ⟨β16, rfl, rfl⟩
 have H := HK18; clear HK18
 refine GoK.code ?_
 refine GoC.seq ?_
 refine GoC.region ?_
 refine GoO.pure (ps_move rfl rfl) ?_
 refine GoO.pure (ps_assign rfl rfl) ?_
 refine GoO.nil ?_
 refine GoK.code ?_
 obtain rfl := Option.some.inj H
 exact GoC.retL (ds := [.own β16 1 0 l21.length]) Try.results19 (ResL.cons (ResD.tmp rfl) (ResL.nil)) (Take.cons _ _ _ _ _ Rem.p0 (Take.nil _)) ⟨β16, rfl, rfl⟩

def slices_Index_int_B1 (s_ : (List Int)) (v_ : Int) : Nat → Unit → Option (Ct (Unit) (Int)) := fun k5 _ =>
 if v_ = (s_.getD k5 (0 : Int)) then
  some (.ret ((k5 : Nat) : Int))
 else
  some (.go ())
def slices_Index_int_F (s_ : (List Int)) (v_ : Int) : Option (Int) :=
 (forC (slices_Index_int_B1 s_ v_) s_.length 0 ()).bind fun q => match q with
 | .go _ =>
  some (-1)
 | .ret x => some x
def slices_Index_int_P (out : Int) (d : D) (H : List HL) : Prop := d = .v (.int .i64 out) ∧ H = []
theorem slices_Index_int_I (out : Int) : IndepP (slices_Index_int_P out) := IndepP.of (by rintro _ _ ⟨rfl, rfl⟩; exact ⟨inferInstance, inferInstance⟩)
set_option maxRecDepth 100000 in
set_option maxHeartbeats 4000000 in
theorem slices_Index_int_spec (s_ : (List Int)) (v_ : Int) {out : Int} (H : slices_Index_int_F s_ v_ = some out) : Does Try.prog 40 [slD s_, .v (.int .i64 v_)] [] (slices_Index_int_P out) := by
 unfold slices_Index_int_F at H
 refine Does.intro Try.func40 rfl Try.ntmps40 rfl fun w0 I0 => ?_
 refine GoC.seq ?_
 refine GoC.region ?_
 refine GoO.pure (ps_assign rfl rfl) ?_
 refine GoO.nil ?_
 refine GoK.code ?_
 refine GoC.seq ?_
 refine GoC.seq ?_
 refine GoC.region ?_
 refine GoO.pure (ps_move rfl rfl) ?_
 refine GoO.pure (ps_len rfl (by constructor) rfl) ?_
 refine GoO.lenLe (n := s_.length) (x := .tmp 6) rfl (by constructor) sl_lenLe (fun ml1 => ?_)
 refine GoO.pure (ps_move rfl rfl) ?_
 refine GoO.nil ?_
 refine GoK.code ?_
 have hb := bind_l H; clear H
 obtain ⟨q4, hl8, HK2⟩ := hb
 refine GoC.blockJ [] [] (fun v h => q4 = .go () ∧ v = [] ∧ h = []) ?_ ?_
 refine GoC.loopJ [(0, _), (1, _), (7, _)] [] (fun mQ v h => ∃ (k5 : Nat), (k5 + mQ = s_.length ∧ forC (slices_Index_int_B1 s_ v_) mQ k5 () = some q4) ∧ v = [(8, .v (.int .i64 ((k5 : Nat) : Int)))] ∧ h = []) s_.length ⟨_, ⟨by omega, hl8⟩, rfl, rfl⟩ (EnvD.eq rfl (EnvD.eq rfl (EnvD.eq rfl (EnvD.eq rfl (EnvD.nil))))) (TkD.nil _) ?_
 rintro m6 v h ⟨k5, ⟨hkk5, hF3⟩, rfl, rfl⟩
 refine GoC.seq ?_
 refine GoC.region ?_
 refine GoO.pure (ps_lss rfl rfl rfl) ?_
 refine GoO.nil ?_
 refine GoK.code ?_
 refine GoC.seq ?_
 refine GoC.condD rfl (fun (hk5 : (k5 : Int) < ((s_.length : Nat) : Int)) => ?_) (fun (hk5 : ¬ (k5 : Int) < ((s_.length : Nat) : Int)) => ?_)
 obtain ⟨m6', rfl⟩ : ∃ x, m6 = x + 1 := ⟨m6 - 1, by omega⟩
 have hb := bind_l hF3; clear hF3
 obtain ⟨qrm6, H, hF3⟩ := hb
 have hnk5 : k5 < s_.length := by omega
 have hIk5 : InI ((k5 : Int) + 1) := inI_len hk5 ml1
 refine GoC.skip ?_
 refine GoK.code ?_
 refine GoC.seq ?_
 refine GoC.block ?_
 refine GoC.seq ?_
 refine GoC.region ?_
 refine GoO.pure (ps_move rfl rfl) ?_
 refine GoO.pure (ps_assign rfl rfl) ?_
 refine GoO.nil ?_
 refine GoK.code ?_
 refine GoC.seq ?_
 refine GoC.region ?_
 refine GoO.pure (ps_move rfl rfl) ?_
 refine GoO.pure (ps_move rfl rfl) ?_
 refine GoO.pure (ps_move rfl rfl) ?_
 refine GoO.pure (ps_indexAddrRN rfl rfl hnk5 rfl) ?_
 refine GoO.pure (ps_loadR rfl hnk5 rfl rfl) ?_
 refine GoO.pure (ps_eql rfl rfl rfl) ?_
 refine GoO.nil ?_
 refine GoK.code ?_
 refine GoC.condD rfl (fun h7 => ?_) (fun h7 => ?_)
 replace H := ite_t h7 H
 refine GoC.seq ?_
 refine GoC.region ?_
 refine GoO.pure (ps_move rfl rfl) ?_
 refine GoO.pure (ps_assign rfl rfl) ?_
 refine GoO.nil ?_
 refine GoK.code ?_
 obtain rfl := Option.some.inj H
 obtain rfl := Option.some.inj hF3
 obtain rfl := Option.some.inj HK2
 exact GoC.retL (ds := [.v (.int .i64 ((k5 : Nat) : Int))]) Try.results40 (ResL.cons (ResD.tmp rfl) (ResL.nil)) (Take.nil _) ⟨rfl, rfl⟩
 replace H := ite_f h7 H
 refine GoC.skip ?_
 refine GoK.blk ?_
 refine GoK.code ?_
 refine GoC.region ?_
 refine GoO.pure (ps_add rfl rfl rfl hIk5) ?_
 refine GoO.pure (ps_move rfl rfl) ?_
 refine GoO.nil ?_
 obtain rfl := Option.some.inj H
 exact GoK.againJ m6' (by omega) ⟨_, ⟨by omega, hF3⟩, rfl, rfl⟩ (EnvD.eq rfl (EnvD.eq rfl (EnvD.eq rfl (EnvD.eq rfl (EnvD.nil))))) (TkD.nil _)
 obtain rfl : m6 = 0 := by omega
 refine GoC.exit rfl ?_
 cases hF3
 exact GoK.meet ⟨rfl, rfl, rfl⟩ (EnvD.nil) (TkD.nil _)
 rintro v h ⟨rfl, rfl, rfl⟩
 have H := HK2; clear HK2
 refine GoK.code ?_
 refine GoC.seq ?_
 refine GoC.region ?_
 refine GoO.pure (ps_assign rfl rfl) ?_
 refine GoO.nil ?_
 refine GoK.code ?_
 obtain rfl := Option.some.inj H
 exact GoC.retL (ds := [.v (.int .i64 (-1))]) Try.results40 (ResL.cons (ResD.tmp rfl) (ResL.nil)) (Take.nil _) ⟨rfl, rfl⟩

def slices_Contains_int_F (s_ : (List Int)) (v_ : Int) : Option (Bool) :=
 (slices_Index_int_F s_ v_).bind fun r1 =>
 some (decide (0 ≤ r1))
def slices_Contains_int_P (out : Bool) (d : D) (H : List HL) : Prop := d = .v (.bool out) ∧ H = []
theorem slices_Contains_int_I (out : Bool) : IndepP (slices_Contains_int_P out) := IndepP.of (by rintro _ _ ⟨rfl, rfl⟩; exact ⟨inferInstance, inferInstance⟩)
set_option maxRecDepth 100000 in
set_option maxHeartbeats 4000000 in
theorem slices_Contains_int_spec (s_ : (List Int)) (v_ : Int) {out : Bool} (H : slices_Contains_int_F s_ v_ = some out) : Does Try.prog 15 [slD s_, .v (.int .i64 v_)] [] (slices_Contains_int_P out) := by
 unfold slices_Contains_int_F at H
 refine Does.intro Try.func15 rfl Try.ntmps15 rfl fun w0 I0 => ?_
 refine GoC.seq ?_
 refine GoC.region ?_
 refine GoO.pure (ps_assign rfl rfl) ?_
 refine GoO.nil ?_
 refine GoK.code ?_
 refine GoC.seq ?_
 refine GoC.region ?_
 refine GoO.pure (ps_move rfl rfl) ?_
 refine GoO.pure (ps_move rfl rfl) ?_
 have hb := bind_l H; clear H
 obtain ⟨r1, e2, H⟩ := hb
 refine GoO.effC (ef_call rfl (Take.nil _) (Take.nil _) (slices_Index_int_spec s_ v_ e2) (LendL.cons (Lend.refl _ _) (LendL.cons (Lend.refl _ _) (LendL.nil))) rfl (slices_Index_int_I (r1))) (fun rr HH hp => ?_)
 obtain ⟨rfl, rfl⟩ := hp
 refine GoO.pure (ps_geq rfl rfl rfl) ?_
 refine GoO.pure (ps_assign rfl rfl) ?_
 refine GoO.nil ?_
 refine GoK.code ?_
 obtain rfl := Option.some.inj H
 exact GoC.retL (ds := [.v (.bool (decide (0 ≤ r1)))]) Try.results15 (ResL.cons (ResD.tmp rfl) (ResL.nil)) (Take.nil _) ⟨rfl, rfl⟩

def slices_Equal_int_B1 (s1_ : (List Int)) (s2_ : (List Int)) : Nat → Unit → Option (Ct (Unit) (Bool)) := fun k7 _ =>
 ck (k7 < s2_.length) <|
 if (s1_.getD k7 (0 : Int)) ≠ (s2_.getD k7 (0 : Int)) then
  some (.ret false)
 else
  some (.go ())
def slices_Equal_int_F (s1_ : (List Int)) (s2_ : (List Int)) : Option (Bool) :=
 if ((s1_.length : Nat) : Int) ≠ ((s2_.length : Nat) : Int) then
  some false
 else
  (forC (slices_Equal_int_B1 s1_ s2_) s1_.length 0 ()).bind fun q => match q with
  | .go _ =>
   some true
  | .ret x => some x
def slices_Equal_int_P (out : Bool) (d : D) (H : List HL) : Prop := d = .v (.bool out) ∧ H = []
theorem slices_Equal_int_I (out : Bool) : IndepP (slices_Equal_int_P out) := IndepP.of (by rintro _ _ ⟨rfl, rfl⟩; exact ⟨inferInstance, inferInstance⟩)
set_option maxRecDepth 100000 in
set_option maxHeartbeats 4000000 in
theorem slices_Equal_int_spec (s1_ : (List Int)) (s2_ : (List Int)) {out : Bool} (H : slices_Equal_int_F s1_ s2_ = some out) : Does Try.prog 27 [slD s1_, slD s2_] [] (slices_Equal_int_P out) := by
 unfold slices_Equal_int_F at H
 refine Does.intro Try.func27 rfl Try.ntmps27 rfl fun w0 I0 => ?_
 refine GoC.seq ?_
 refine GoC.region ?_
 refine GoO.pure (ps_assign rfl rfl) ?_
 refine GoO.nil ?_
 refine GoK.code ?_
 refine GoC.seq ?_
 refine GoC.seq ?_
 refine GoC.region ?_
 refine GoO.pure (ps_move rfl rfl) ?_
 refine GoO.pure (ps_len rfl (by constructor) rfl) ?_
 refine GoO.lenLe (n := s1_.length) (x := .tmp 6) rfl (by constructor) sl_lenLe (fun ml1 => ?_)
 refine GoO.pure (ps_move rfl rfl) ?_
 refine GoO.pure (ps_len rfl (by constructor) rfl) ?_
 refine GoO.lenLe (n := s2_.length) (x := .tmp 8) rfl (by constructor) sl_lenLe (fun ml2 => ?_)
 refine GoO.pure (ps_neq rfl rfl rfl) ?_
 refine GoO.nil ?_
 refine GoK.code ?_
 refine GoC.condD rfl (fun h3 => ?_) (fun h3 => ?_)
 replace H := ite_t h3 H
 refine GoC.seq ?_
 refine GoC.region ?_
 refine GoO.pure (ps_assign rfl rfl) ?_
 refine GoO.nil ?_
 refine GoK.code ?_
 obtain rfl := Option.some.inj H
 exact GoC.retL (ds := [.v (.bool false)]) Try.results27 (ResL.cons (ResD.tmp rfl) (ResL.nil)) (Take.nil _) ⟨rfl, rfl⟩
 replace H := ite_f h3 H
 refine GoC.skip ?_
 refine GoK.code ?_
 refine GoC.seq ?_
 refine GoC.seq ?_
 refine GoC.region ?_
 refine GoO.pure (ps_move rfl rfl) ?_
 refine GoO.pure (ps_len rfl (by constructor) rfl) ?_
 refine GoO.pure (ps_move rfl rfl) ?_
 refine GoO.nil ?_
 refine GoK.code ?_
 have hb := bind_l H; clear H
 obtain ⟨q6, hl11, HK4⟩ := hb
 refine GoC.blockJ [] [] (fun v h => q6 = .go () ∧ v = [] ∧ h = []) ?_ ?_
 refine GoC.loopJ [(0, _), (1, _), (12, _)] [] (fun mQ v h => ∃ (k7 : Nat), (k7 + mQ = s1_.length ∧ forC (slices_Equal_int_B1 s1_ s2_) mQ k7 () = some q6) ∧ v = [(13, .v (.int .i64 ((k7 : Nat) : Int)))] ∧ h = []) s1_.length ⟨_, ⟨by omega, hl11⟩, rfl, rfl⟩ (EnvD.eq rfl (EnvD.eq rfl (EnvD.eq rfl (EnvD.eq rfl (EnvD.nil))))) (TkD.nil _) ?_
 rintro m8 v h ⟨k7, ⟨hkk7, hF5⟩, rfl, rfl⟩
 refine GoC.seq ?_
 refine GoC.region ?_
 refine GoO.pure (ps_lss rfl rfl rfl) ?_
 refine GoO.nil ?_
 refine GoK.code ?_
 refine GoC.seq ?_
 refine GoC.condD rfl (fun (hk7 : (k7 : Int) < ((s1_.length : Nat) : Int)) => ?_) (fun (hk7 : ¬ (k7 : Int) < ((s1_.length : Nat) : Int)) => ?_)
 obtain ⟨m8', rfl⟩ : ∃ x, m8 = x + 1 := ⟨m8 - 1, by omega⟩
 have hb := bind_l hF5; clear hF5
 obtain ⟨qrm8, H, hF5⟩ := hb
 have hnk7 : k7 < s1_.length := by omega
 have hIk7 : InI ((k7 : Int) + 1) := inI_len hk7 ml1
 refine GoC.skip ?_
 refine GoK.code ?_
 refine GoC.seq ?_
 refine GoC.block ?_
 refine GoC.seq ?_
 refine GoC.region ?_
 refine GoO.pure (ps_move rfl rfl) ?_
 refine GoO.pure (ps_assign rfl rfl) ?_
 refine GoO.nil ?_
 refine GoK.code ?_
 refine GoC.seq ?_
 refine GoC.drawA (.q 0 (.q 1 (.q 2 (.q 3 (.q 4 (.q 5 (.q 6 (.q 7 (.q 8 (.done)))))))))) follows (by kernel_rfl) ?_
 refine GoP.qN rfl (ps_move rfl rfl) ?_
 refine GoP.qN rfl (ps_move rfl rfl) ?_
 refine GoP.qN rfl (ps_indexAddrRN rfl rfl hnk7 rfl) ?_
 refine GoP.qN rfl (ps_loadR rfl hnk7 rfl rfl) ?_
 refine GoP.qN rfl (ps_move rfl rfl) ?_
 refine GoP.qN rfl (ps_move rfl rfl) ?_
 have c9 := ck_l H; replace H := ck_r H
 refine GoP.qN rfl (ps_indexAddrRN rfl rfl c9 rfl) ?_
 refine GoP.qN rfl (ps_loadR rfl c9 rfl rfl) ?_
 refine GoP.qN rfl (ps_neq rfl rfl rfl) ?_
 refine GoP.done ?_
 refine GoK.code ?_
 refine GoC.condD rfl (fun h10 => ?_) (fun h10 => ?_)
 replace H := ite_t h10 H
 refine GoC.seq ?_
 refine GoC.region ?_
 refine GoO.pure (ps_assign rfl rfl) ?_
 refine GoO.nil ?_
 refine GoK.code ?_
 obtain rfl := Option.some.inj H
 obtain rfl := Option.some.inj hF5
 obtain rfl := Option.some.inj HK4
 exact GoC.retL (ds := [.v (.bool false)]) Try.results27 (ResL.cons (ResD.tmp rfl) (ResL.nil)) (Take.nil _) ⟨rfl, rfl⟩
 replace H := ite_f h10 H
 refine GoC.skip ?_
 refine GoK.blk ?_
 refine GoK.code ?_
 refine GoC.region ?_
 refine GoO.pure (ps_add rfl rfl rfl hIk7) ?_
 refine GoO.pure (ps_move rfl rfl) ?_
 refine GoO.nil ?_
 obtain rfl := Option.some.inj H
 exact GoK.againJ m8' (by omega) ⟨_, ⟨by omega, hF5⟩, rfl, rfl⟩ (EnvD.eq rfl (EnvD.eq rfl (EnvD.eq rfl (EnvD.eq rfl (EnvD.nil))))) (TkD.nil _)
 obtain rfl : m8 = 0 := by omega
 refine GoC.exit rfl ?_
 cases hF5
 exact GoK.meet ⟨rfl, rfl, rfl⟩ (EnvD.nil) (TkD.nil _)
 rintro v h ⟨rfl, rfl, rfl⟩
 have H := HK4; clear HK4
 refine GoK.code ?_
 refine GoC.seq ?_
 refine GoC.region ?_
 refine GoO.pure (ps_assign rfl rfl) ?_
 refine GoO.nil ?_
 refine GoK.code ?_
 obtain rfl := Option.some.inj H
 exact GoC.retL (ds := [.v (.bool true)]) Try.results27 (ResL.cons (ResD.tmp rfl) (ResL.nil)) (Take.nil _) ⟨rfl, rfl⟩

def slices_Equal_bool_B1 (s1_ : (List Bool)) (s2_ : (List Bool)) : Nat → Unit → Option (Ct (Unit) (Bool)) := fun k7 _ =>
 ck (k7 < s2_.length) <|
 if (s1_.getD k7 false) ≠ (s2_.getD k7 false) then
  some (.ret false)
 else
  some (.go ())
def slices_Equal_bool_F (s1_ : (List Bool)) (s2_ : (List Bool)) : Option (Bool) :=
 if ((s1_.length : Nat) : Int) ≠ ((s2_.length : Nat) : Int) then
  some false
 else
  (forC (slices_Equal_bool_B1 s1_ s2_) s1_.length 0 ()).bind fun q => match q with
  | .go _ =>
   some true
  | .ret x => some x
def slices_Equal_bool_P (out : Bool) (d : D) (H : List HL) : Prop := d = .v (.bool out) ∧ H = []
theorem slices_Equal_bool_I (out : Bool) : IndepP (slices_Equal_bool_P out) := IndepP.of (by rintro _ _ ⟨rfl, rfl⟩; exact ⟨inferInstance, inferInstance⟩)
set_option maxRecDepth 100000 in
set_option maxHeartbeats 4000000 in
theorem slices_Equal_bool_spec (s1_ : (List Bool)) (s2_ : (List Bool)) {out : Bool} (H : slices_Equal_bool_F s1_ s2_ = some out) : Does Try.prog 34 [slD s1_, slD s2_] [] (slices_Equal_bool_P out) := by
 unfold slices_Equal_bool_F at H
 refine Does.intro Try.func34 rfl Try.ntmps34 rfl fun w0 I0 => ?_
 refine GoC.seq ?_
 refine GoC.region ?_
 refine GoO.pure (ps_assign rfl rfl) ?_
 refine GoO.nil ?_
 refine GoK.code ?_
 refine GoC.seq ?_
 refine GoC.seq ?_
 refine GoC.region ?_
 refine GoO.pure (ps_move rfl rfl) ?_
 refine GoO.pure (ps_len rfl (by constructor) rfl) ?_
 refine GoO.lenLe (n := s1_.length) (x := .tmp 6) rfl (by constructor) sl_lenLe (fun ml1 => ?_)
 refine GoO.pure (ps_move rfl rfl) ?_
 refine GoO.pure (ps_len rfl (by constructor) rfl) ?_
 refine GoO.lenLe (n := s2_.length) (x := .tmp 8) rfl (by constructor) sl_lenLe (fun ml2 => ?_)
 refine GoO.pure (ps_neq rfl rfl rfl) ?_
 refine GoO.nil ?_
 refine GoK.code ?_
 refine GoC.condD rfl (fun h3 => ?_) (fun h3 => ?_)
 replace H := ite_t h3 H
 refine GoC.seq ?_
 refine GoC.region ?_
 refine GoO.pure (ps_assign rfl rfl) ?_
 refine GoO.nil ?_
 refine GoK.code ?_
 obtain rfl := Option.some.inj H
 exact GoC.retL (ds := [.v (.bool false)]) Try.results34 (ResL.cons (ResD.tmp rfl) (ResL.nil)) (Take.nil _) ⟨rfl, rfl⟩
 replace H := ite_f h3 H
 refine GoC.skip ?_
 refine GoK.code ?_
 refine GoC.seq ?_
 refine GoC.seq ?_
 refine GoC.region ?_
 refine GoO.pure (ps_move rfl rfl) ?_
 refine GoO.pure (ps_len rfl (by constructor) rfl) ?_
 refine GoO.pure (ps_move rfl rfl) ?_
 refine GoO.nil ?_
 refine GoK.code ?_
 have hb := bind_l H; clear H
 obtain ⟨q6, hl11, HK4⟩ := hb
 refine GoC.blockJ [] [] (fun v h => q6 = .go () ∧ v = [] ∧ h = []) ?_ ?_
 refine GoC.loopJ [(0, _), (1, _), (12, _)] [] (fun mQ v h => ∃ (k7 : Nat), (k7 + mQ = s1_.length ∧ forC (slices_Equal_bool_B1 s1_ s2_) mQ k7 () = some q6) ∧ v = [(13, .v (.int .i64 ((k7 : Nat) : Int)))] ∧ h = []) s1_.length ⟨_, ⟨by omega, hl11⟩, rfl, rfl⟩ (EnvD.eq rfl (EnvD.eq rfl (EnvD.eq rfl (EnvD.eq rfl (EnvD.nil))))) (TkD.nil _) ?_
 rintro m8 v h ⟨k7, ⟨hkk7, hF5⟩, rfl, rfl⟩
 refine GoC.seq ?_
 refine GoC.region ?_
 refine GoO.pure (ps_lss rfl rfl rfl) ?_
 refine GoO.nil ?_
 refine GoK.code ?_
 refine GoC.seq ?_
 refine GoC.condD rfl (fun (hk7 : (k7 : Int) < ((s1_.length : Nat) : Int)) => ?_) (fun (hk7 : ¬ (k7 : Int) < ((s1_.length : Nat) : Int)) => ?_)
 obtain ⟨m8', rfl⟩ : ∃ x, m8 = x + 1 := ⟨m8 - 1, by omega⟩
 have hb := bind_l hF5; clear hF5
 obtain ⟨qrm8, H, hF5⟩ := hb
 have hnk7 : k7 < s1_.length := by omega
 have hIk7 : InI ((k7 : Int) + 1) := inI_len hk7 ml1
 refine GoC.skip ?_
 refine GoK.code ?_
 refine GoC.seq ?_
 refine GoC.block ?_
 refine GoC.seq ?_
 refine GoC.region ?_
 refine GoO.pure (ps_move rfl rfl) ?_
 refine GoO.pure (ps_assign rfl rfl) ?_
 refine GoO.nil ?_
 refine GoK.code ?_
 refine GoC.seq ?_
 refine GoC.drawA (.q 0 (.q 1 (.q 2 (.q 3 (.q 4 (.q 5 (.q 6 (.q 7 (.q 8 (.done)))))))))) follows (by kernel_rfl) ?_
 refine GoP.qN rfl (ps_move rfl rfl) ?_
 refine GoP.qN rfl (ps_move rfl rfl) ?_
 refine GoP.qN rfl (ps_indexAddrRN rfl rfl hnk7 rfl) ?_
 refine GoP.qN rfl (ps_loadR rfl hnk7 rfl rfl) ?_
 refine GoP.qN rfl (ps_move rfl rfl) ?_
 refine GoP.qN rfl (ps_move rfl rfl) ?_
 have c9 := ck_l H; replace H := ck_r H
 refine GoP.qN rfl (ps_indexAddrRN rfl rfl c9 rfl) ?_
 refine GoP.qN rfl (ps_loadR rfl c9 rfl rfl) ?_
 refine GoP.qN rfl (ps_neqB rfl rfl rfl) ?_
 refine GoP.done ?_
 refine GoK.code ?_
 refine GoC.condD rfl (fun h10 => ?_) (fun h10 => ?_)
 replace H := ite_t h10 H
 refine GoC.seq ?_
 refine GoC.region ?_
 refine GoO.pure (ps_assign rfl rfl) ?_
 refine GoO.nil ?_
 refine GoK.code ?_
 obtain rfl := Option.some.inj H
 obtain rfl := Option.some.inj hF5
 obtain rfl := Option.some.inj HK4
 exact GoC.retL (ds := [.v (.bool false)]) Try.results34 (ResL.cons (ResD.tmp rfl) (ResL.nil)) (Take.nil _) ⟨rfl, rfl⟩
 replace H := ite_f h10 H
 refine GoC.skip ?_
 refine GoK.blk ?_
 refine GoK.code ?_
 refine GoC.region ?_
 refine GoO.pure (ps_add rfl rfl rfl hIk7) ?_
 refine GoO.pure (ps_move rfl rfl) ?_
 refine GoO.nil ?_
 obtain rfl := Option.some.inj H
 exact GoK.againJ m8' (by omega) ⟨_, ⟨by omega, hF5⟩, rfl, rfl⟩ (EnvD.eq rfl (EnvD.eq rfl (EnvD.eq rfl (EnvD.eq rfl (EnvD.nil))))) (TkD.nil _)
 obtain rfl : m8 = 0 := by omega
 refine GoC.exit rfl ?_
 cases hF5
 exact GoK.meet ⟨rfl, rfl, rfl⟩ (EnvD.nil) (TkD.nil _)
 rintro v h ⟨rfl, rfl, rfl⟩
 have H := HK4; clear HK4
 refine GoK.code ?_
 refine GoC.seq ?_
 refine GoC.region ?_
 refine GoO.pure (ps_assign rfl rfl) ?_
 refine GoO.nil ?_
 refine GoK.code ?_
 obtain rfl := Option.some.inj H
 exact GoC.retL (ds := [.v (.bool true)]) Try.results34 (ResL.cons (ResD.tmp rfl) (ResL.nil)) (Take.nil _) ⟨rfl, rfl⟩

def slices_Clone_Arc_F (s_ : (List Arc)) : Option ((List Arc)) :=
 ck (0 + s_.length ≤ 5864062014805) <|
 some (([] : List Arc) ++ s_)
def slices_Clone_Arc_P (out : (List Arc)) (d : D) (H : List HL) : Prop := ∃ β1 : BK, d = .own β1 3 0 out.length ∧ H = [.one β1 29 3 (row out)]
theorem slices_Clone_Arc_I (out : (List Arc)) : IndepP (slices_Clone_Arc_P out) := IndepP.of (by rintro _ _ ⟨β1, rfl, rfl⟩; exact ⟨inferInstance, inferInstance⟩)
set_option maxRecDepth 100000 in
set_option maxHeartbeats 4000000 in
theorem slices_Clone_Arc_spec (s_ : (List Arc)) {out : (List Arc)} (H : slices_Clone_Arc_F s_ = some out) : Does Try.prog 9 [slD s_] [] (slices_Clone_Arc_P out) := by
 unfold slices_Clone_Arc_F at H
 refine Does.intro Try.func9 rfl Try.ntmps9 rfl fun w0 I0 => ?_
 refine GoC.seq ?_
 refine GoC.region ?_
 refine GoO.pure (ps_assign rfl rfl) ?_
 refine GoO.nil ?_
 refine GoK.code ?_
 refine GoC.seq ?_
 refine GoC.seq ?_
 refine GoC.region ?_
 refine GoO.pure (ps_move rfl rfl) ?_
 refine GoO.eff (ef_eqlNil rfl rfl rfl) (fun s2 hs2 => ?_)
 obtain ⟨bn1, hbn1, rfl⟩ := hs2
 refine GoO.nil ?_
 refine GoK.code ?_
 refine GoC.cond rfl (fun h2 => ?_) (fun h2 => ?_)
 have e0 := List.eq_nil_of_length_eq_zero (hbn1 h2); subst e0; replace H := ck_r H
 refine GoC.seq ?_
 refine GoC.region ?_
 refine GoO.pure (ps_assign rfl rfl) ?_
 refine GoO.nil ?_
 refine GoK.code ?_
 obtain rfl := Option.some.inj H
 refine GoC.le (le_row0 29 3 (row ([] : List Arc)) rfl) ?_
 exact GoC.retL (ds := [.own ⟨0, 0, 0⟩ 3 0 0]) Try.results9 (ResL.cons (ResD.le (ResD.tmp rfl) (by exact DLe.nilOwn)) (ResL.nil)) (Take.cons _ _ _ _ _ Rem.p0 (Take.nil _)) ⟨⟨0, 0, 0⟩, rfl, rfl⟩
 refine GoC.skip ?_
 refine GoK.code ?_
 refine GoC.seq ?_
 refine GoC.region ?_
 refine GoO.effB (ef_buildSlice (row (([] : List Arc) : List Arc)) rfl (Parts.nil _) rfl rfl rfl rfl) (fun β3 => ?_)
 refine GoO.pure (ps_move rfl rfl) ?_
 have c5 := ck_l H; replace H := ck_r H
 refine GoO.effB (ef_append rfl rfl Rem.p0 Src.sl (cat_row (α := Arc) (by first | rfl | omega | (simp only [subl_length, cpl_length, List.length_set, List.length_append, List.length_cons, List.length_nil, List.length_replicate, row_len] <;> first | rfl | omega)) (by first | rfl | omega | (simp only [subl_length, cpl_length, List.length_set, List.length_append, List.length_cons, List.length_nil, List.length_replicate, row_len] <;> first | rfl | omega)) (fun _ _ _ _ => rfl)) (by first | omega | (simp only [subl_length, cpl_length, List.length_set, List.length_append, List.length_cons, List.length_nil, List.length_replicate, row_len]; omega) | (simp only [subl_length, cpl_length, List.length_set, List.length_append, List.length_cons, List.length_nil, List.length_replicate, row_len]; done)) (app_le c5 rfl) rfl rfl rfl) (fun β4 => ?_)
 refine GoO.pure (ps_assign rfl rfl) ?_
 refine GoO.nil ?_
 refine GoK.code ?_
 obtain rfl := Option.some.inj H
 exact GoC.retL (ds := [.own β4 3 0 (([] : List Arc) ++ s_).length]) Try.results9 (ResL.cons (ResD.le (ResD.tmp rfl) (by exact DLe.len (by first | rfl | omega | (simp only [row_len, gridC_len, rowO_len, List.length_append, List.length_cons, List.length_nil, List.length_nil] <;> first | rfl | omega)))) (ResL.nil)) (Take.cons _ _ _ _ _ Rem.p0 (Take.nil _)) ⟨β4, rfl, rfl⟩

def slices_Equal_Arc_B1 (s1_ : (List Arc)) (s2_ : (List Arc)) : Nat → Unit → Option (Ct (Unit) (Bool)) := fun k7 _ =>
 ck (k7 < s2_.length) <|
 if ¬ (((s1_.getD k7 El.d).f) = ((s2_.getD k7 El.d).f) ∧ ((s1_.getD k7 El.d).t) = ((s2_.getD k7 El.d).t) ∧ ((s1_.getD k7 El.d).c) = ((s2_.getD k7 El.d).c)) then
  some (.ret false)
 else
  some (.go ())
def slices_Equal_Arc_F (s1_ : (List Arc)) (s2_ : (List Arc)) : Option (Bool) :=
 if ((s1_.length : Nat) : Int) ≠ ((s2_.length : Nat) : Int) then
  some false
 else
  (forC (slices_Equal_Arc_B1 s1_ s2_) s1_.length 0 ()).bind fun q => match q with
  | .go _ =>
   some true
  | .ret x => some x
def slices_Equal_Arc_P (out : Bool) (d : D) (H : List HL) : Prop := d = .v (.bool out) ∧ H = []
theorem slices_Equal_Arc_I (out : Bool) : IndepP (slices_Equal_Arc_P out) := IndepP.of (by rintro _ _ ⟨rfl, rfl⟩; exact ⟨inferInstance, inferInstance⟩)
set_option maxRecDepth 100000 in
set_option maxHeartbeats 4000000 in
theorem slices_Equal_Arc_spec (s1_ : (List Arc)) (s2_ : (List Arc)) {out : Bool} (H : slices_Equal_Arc_F s1_ s2_ = some out) : Does Try.prog 14 [slD s1_, slD s2_] [] (slices_Equal_Arc_P out) := by
 unfold slices_Equal_Arc_F at H
 refine Does.intro Try.func14 rfl Try.ntmps14 rfl fun w0 I0 => ?_
 refine GoC.seq ?_
 refine GoC.region ?_
 refine GoO.pure (ps_assign rfl rfl) ?_
 refine GoO.nil ?_
 refine GoK.code ?_
 refine GoC.seq ?_
 refine GoC.seq ?_
 refine GoC.region ?_
 refine GoO.pure (ps_move rfl rfl) ?_
 refine GoO.pure (ps_len rfl (by constructor) rfl) ?_
 refine GoO.lenLe (n := s1_.length) (x := .tmp 6) rfl (by constructor) sl_lenLe (fun ml1 => ?_)
 refine GoO.pure (ps_move rfl rfl) ?_
 refine GoO.pure (ps_len rfl (by constructor) rfl) ?_
 refine GoO.lenLe (n := s2_.length) (x := .tmp 8) rfl (by constructor) sl_lenLe (fun ml2 => ?_)
 refine GoO.pure (ps_neq rfl rfl rfl) ?_
 refine GoO.nil ?_
 refine GoK.code ?_
 refine GoC.condD rfl (fun h3 => ?_) (fun h3 => ?_)
 replace H := ite_t h3 H
 refine GoC.seq ?_
 refine GoC.region ?_
 refine GoO.pure (ps_assign rfl rfl) ?_
 refine GoO.nil ?_
 refine GoK.code ?_
 obtain rfl := Option.some.inj H
 exact GoC.retL (ds := [.v (.bool false)]) Try.results14 (ResL.cons (ResD.tmp rfl) (ResL.nil)) (Take.nil _) ⟨rfl, rfl⟩
 replace H := ite_f h3 H
 refine GoC.skip ?_
 refine GoK.code ?_
 refine GoC.seq ?_
 refine GoC.seq ?_
 refine GoC.region ?_
 refine GoO.pure (ps_move rfl rfl) ?_
 refine GoO.pure (ps_len rfl (by constructor) rfl) ?_
 refine GoO.pure (ps_move rfl rfl) ?_
 refine GoO.nil ?_
 refine GoK.code ?_
 have hb := bind_l H; clear H
 obtain ⟨q6, hl11, HK4⟩ := hb
 refine GoC.blockJ [] [] (fun v h => q6 = .go () ∧ v = [] ∧ h = []) ?_ ?_
 refine GoC.loopJ [(0, _), (1, _), (12, _)] [] (fun mQ v h => ∃ (k7 : Nat), (k7 + mQ = s1_.length ∧ forC (slices_Equal_Arc_B1 s1_ s2_) mQ k7 () = some q6) ∧ v = [(13, .v (.int .i64 ((k7 : Nat) : Int)))] ∧ h = []) s1_.length ⟨_, ⟨by omega, hl11⟩, rfl, rfl⟩ (EnvD.eq rfl (EnvD.eq rfl (EnvD.eq rfl (EnvD.eq rfl (EnvD.nil))))) (TkD.nil _) ?_
 rintro m8 v h ⟨k7, ⟨hkk7, hF5⟩, rfl, rfl⟩
 refine GoC.seq ?_
 refine GoC.region ?_
 refine GoO.pure (ps_lss rfl rfl rfl) ?_
 refine GoO.nil ?_
 refine GoK.code ?_
 refine GoC.seq ?_
 refine GoC.condD rfl (fun (hk7 : (k7 : Int) < ((s1_.length : Nat) : Int)) => ?_) (fun (hk7 : ¬ (k7 : Int) < ((s1_.length : Nat) : Int)) => ?_)
 obtain ⟨m8', rfl⟩ : ∃ x, m8 = x + 1 := ⟨m8 - 1, by omega⟩
 have hb := bind_l hF5; clear hF5
 obtain ⟨qrm8, H, hF5⟩ := hb
 have hnk7 : k7 < s1_.length := by omega
 have hIk7 : InI ((k7 : Int) + 1) := inI_len hk7 ml1
 refine GoC.skip ?_
 refine GoK.code ?_
 refine GoC.seq ?_
 refine GoC.block ?_
 refine GoC.seq ?_
 refine GoC.region ?_
 refine GoO.pure (ps_move rfl rfl) ?_
 refine GoO.pure (ps_assign rfl rfl) ?_
 refine GoO.nil ?_
 refine GoK.code ?_
 refine GoC.seq ?_
 refine GoC.drawA (.q 0 (.q 1 (.q 2 (.q 3 (.q 4 (.q 5 (.q 6 (.q 7 (.q 8 (.done)))))))))) follows (by kernel_rfl) ?_
 refine GoP.qN rfl (ps_move rfl rfl) ?_
 refine GoP.qN rfl (ps_move rfl rfl) ?_
 refine GoP.qN rfl (ps_indexAddrRN rfl rfl hnk7 rfl) ?_
 refine GoP.qN rfl (ps_loadAgR rfl hnk7 rfl rfl) ?_
 refine GoP.qN rfl (ps_move rfl rfl) ?_
 refine GoP.qN rfl (ps_move rfl rfl) ?_
 have c9 := ck_l H; replace H := ck_r H
 refine GoP.qN rfl (ps_indexAddrRN rfl rfl c9 rfl) ?_
 refine GoP.qN rfl (ps_loadAgR rfl c9 rfl rfl) ?_
 refine GoP.qN rfl (ps_neqS rfl rfl rfl rfl rfl rfl rfl rfl rfl) ?_
 refine GoP.done ?_
 refine GoK.code ?_
 refine GoC.condD rfl (fun h10 => ?_) (fun h10 => ?_)
 replace H := ite_t h10 H
 refine GoC.seq ?_
 refine GoC.region ?_
 refine GoO.pure (ps_assign rfl rfl) ?_
 refine GoO.nil ?_
 refine GoK.code ?_
 obtain rfl := Option.some.inj H
 obtain rfl := Option.some.inj hF5
 obtain rfl := Option.some.inj HK4
 exact GoC.retL (ds := [.v (.bool false)]) Try.results14 (ResL.cons (ResD.tmp rfl) (ResL.nil)) (Take.nil _) ⟨rfl, rfl⟩
 replace H := ite_f h10 H
 refine GoC.skip ?_
 refine GoK.blk ?_
 refine GoK.code ?_
 refine GoC.region ?_
 refine GoO.pure (ps_add rfl rfl rfl hIk7) ?_
 refine GoO.pure (ps_move rfl rfl) ?_
 refine GoO.nil ?_
 obtain rfl := Option.some.inj H
 exact GoK.againJ m8' (by omega) ⟨_, ⟨by omega, hF5⟩, rfl, rfl⟩ (EnvD.eq rfl (EnvD.eq rfl (EnvD.eq rfl (EnvD.eq rfl (EnvD.nil))))) (TkD.nil _)
 obtain rfl : m8 = 0 := by omega
 refine GoC.exit rfl ?_
 cases hF5
 exact GoK.meet ⟨rfl, rfl, rfl⟩ (EnvD.nil) (TkD.nil _)
 rintro v h ⟨rfl, rfl, rfl⟩
 have H := HK4; clear HK4
 refine GoK.code ?_
 refine GoC.seq ?_
 refine GoC.region ?_
 refine GoO.pure (ps_assign rfl rfl) ?_
 refine GoO.nil ?_
 refine GoK.code ?_
 obtain rfl := Option.some.inj H
 exact GoC.retL (ds := [.v (.bool true)]) Try.results14 (ResL.cons (ResD.tmp rfl) (ResL.nil)) (Take.nil _) ⟨rfl, rfl⟩

def slices_Clone_int_F (s_ : (List Int)) : Option ((List Int)) :=
 ck (0 + s_.length ≤ 17592186044416) <|
 some (([] : List Int) ++ s_)
def slices_Clone_int_P (out : (List Int)) (d : D) (H : List HL) : Prop := ∃ β1 : BK, d = .own β1 1 0 out.length ∧ H = [.one β1 3 1 (row out)]
theorem slices_Clone_int_I (out : (List Int)) : IndepP (slices_Clone_int_P out) := IndepP.of (by rintro _ _ ⟨β1, rfl, rfl⟩; exact ⟨inferInstance, inferInstance⟩)
set_option maxRecDepth 100000 in
set_option maxHeartbeats 4000000 in
theorem slices_Clone_int_spec (s_ : (List Int)) {out : (List Int)} (H : slices_Clone_int_F s_ = some out) : Does Try.prog 20 [slD s_] [] (slices_Clone_int_P out) := by
 unfold slices_Clone_int_F at H
 refine Does.intro Try.func20 rfl Try.ntmps20 rfl fun w0 I0 => ?_
 refine GoC.seq ?_
 refine GoC.region ?_
 refine GoO.pure (ps_assign rfl rfl) ?_
 refine GoO.nil ?_
 refine GoK.code ?_
 refine GoC.seq ?_
 refine GoC.seq ?_
 refine GoC.region ?_
 refine GoO.pure (ps_move rfl rfl) ?_
 refine GoO.eff (ef_eqlNil rfl rfl rfl) (fun s2 hs2 => ?_)
 obtain ⟨bn1, hbn1, rfl⟩ := hs2
 refine GoO.nil ?_
 refine GoK.code ?_
 refine GoC.cond rfl (fun h2 => ?_) (fun h2 => ?_)
 have e0 := List.eq_nil_of_length_eq_zero (hbn1 h2); subst e0; replace H := ck_r H
 refine GoC.seq ?_
 refine GoC.region ?_
 refine GoO.pure (ps_assign rfl rfl) ?_
 refine GoO.nil ?_
 refine GoK.code ?_
 obtain rfl := Option.some.inj H
 refine GoC.le (le_row0 3 1 (row ([] : List Int)) rfl) ?_
 exact GoC.retL (ds := [.own ⟨0, 0, 0⟩ 1 0 0]) Try.results20 (ResL.cons (ResD.le (ResD.tmp rfl) (by exact DLe.nilOwn)) (ResL.nil)) (Take.cons _ _ _ _ _ Rem.p0 (Take.nil _)) ⟨⟨0, 0, 0⟩, rfl, rfl⟩
 refine GoC.skip ?_
 refine GoK.code ?_
 refine GoC.seq ?_
 refine GoC.region ?_
 refine GoO.effB (ef_buildSlice (row (([] : List Int) : List Int)) rfl (Parts.nil _) rfl rfl rfl rfl) (fun β3 => ?_)
 refine GoO.pure (ps_move rfl rfl) ?_
 have c5 := ck_l H; replace H := ck_r H
 refine GoO.effB (ef_append rfl rfl Rem.p0 Src.sl (cat_row (α := Int) (by first | rfl | omega | (simp only [subl_length, cpl_length, List.length_set, List.length_append, List.length_cons, List.length_nil, List.length_replicate, row_len] <;> first | rfl | omega)) (by first | rfl | omega | (simp only [subl_length, cpl_length, List.length_set, List.length_append, List.length_cons, List.length_nil, List.length_replicate, row_len] <;> first | rfl | omega)) (fun _ _ _ _ => rfl)) (by first | omega | (simp only [subl_length, cpl_length, List.length_set, List.length_append, List.length_cons, List.length_nil, List.length_replicate, row_len]; omega) | (simp only [subl_length, cpl_length, List.length_set, List.length_append, List.length_cons, List.length_nil, List.length_replicate, row_len]; done)) (app_le c5 rfl) rfl rfl rfl) (fun β4 => ?_)
 refine GoO.pure (ps_assign rfl rfl) ?_
 refine GoO.nil ?_
 refine GoK.code ?_
 obtain rfl := Option.some.inj H
 exact GoC.retL (ds := [.own β4 1 0 (([] : List Int) ++ s_).length]) Try.results20 (ResL.cons (ResD.le (ResD.tmp rfl) (by exact DLe.len (by first | rfl | omega | (simp only [row_len, gridC_len, rowO_len, List.length_append, List.length_cons, List.length_nil, List.length_nil] <;> first | rfl | omega)))) (ResL.nil)) (Take.cons _ _ _ _ _ Rem.p0 (Take.nil _)) ⟨β4, rfl, rfl⟩

end Go.Proofs.Ytlpelkfcmeapiaa
