/- The functions weirkeep.gains, weirkeep.assigns, weirkeep.doubles, told as plain functions, and that the code does as they say. -/
import Derived.Test.YtkpdkigkhbkfiaaTys
import Derived.Test.YtkpdkigkhbkfiaaDat
import Derived.Test.YtkpdkigkhbkfiaaGassign
import Derived.Test.YtkpdkigkhbkfiaaGdouble
import Derived.Test.YtkpdkigkhbkfiaaGslices
namespace Go.Proofs.Ytkpdkigkhbkfiaa
open Go Go.Proofs.Ytkpdkigkhbkfiaa.Sx
set_option linter.unusedVariables false
set_option linter.unusedSimpArgs false
def weirkeep_gains_F : Option ((List (List Int))) :=
 some ([([5, 4] : List Int), ([3, 1] : List Int)] : List (List Int))
def weirkeep_gains_P (out : (List (List Int))) (d : D) (H : List HL) : Prop := ∃ β1 : BK, d = .own β1 1 0 out.length ∧ H = [.one β1 27 1 (row out)]
set_option maxRecDepth 100000 in
set_option maxHeartbeats 4000000 in
theorem weirkeep_gains_spec {out : (List (List Int))} (H : weirkeep_gains_F = some out) : Does Try.prog 43 [] [] (weirkeep_gains_P out) := by
 unfold weirkeep_gains_F at H
 refine Does.intro Try.func43 rfl Try.ntmps43 rfl fun w0 I0 => ?_
 refine GoC.seq ?_
 refine GoC.region ?_
 refine GoO.pure (ps_assign rfl rfl) ?_
 refine GoO.nil ?_
 refine GoK.code ?_
 refine GoC.seq ?_
 refine GoC.region ?_
 refine GoO.effB (ef_buildSlice (row ([5, 4] : List Int)) rfl (Parts.cons _ _ _ _ _ _ _ _ ⟨rfl, rfl⟩ (Part.one _ rfl rfl) rfl rfl (Parts.cons _ _ _ _ _ _ _ _ ⟨rfl, rfl⟩ (Part.one _ rfl rfl) rfl rfl (Parts.nil _))) rfl rfl rfl rfl) (fun β1 => ?_)
 refine GoO.effB (ef_buildSlice (row ([3, 1] : List Int)) rfl (Parts.cons _ _ _ _ _ _ _ _ ⟨rfl, rfl⟩ (Part.one _ rfl rfl) rfl rfl (Parts.cons _ _ _ _ _ _ _ _ ⟨rfl, rfl⟩ (Part.one _ rfl rfl) rfl rfl (Parts.nil _))) rfl rfl rfl rfl) (fun β2 => ?_)
 refine GoO.freezeJ (j := 1) rfl Rem.p1 (Lend.all' At.p0 (by first | rfl | omega | (simp only [row_len, gridC_len, rowO_len, List.length_cons, List.length_nil] <;> first | rfl | omega)) rfl) no_fps ?_
 refine GoO.freezeJ (j := 2) rfl Rem.p0 (Lend.all' At.p0 (by first | rfl | omega | (simp only [row_len, gridC_len, rowO_len, List.length_cons, List.length_nil] <;> first | rfl | omega)) rfl) no_fps ?_
 refine GoO.effB (ef_buildSlice (row ([([5, 4] : List Int), ([3, 1] : List Int)] : List (List Int))) rfl (Parts.cons _ _ _ _ _ _ _ _ ⟨rfl, rfl⟩ (Part.one _ rfl rfl) rfl rfl (Parts.cons _ _ _ _ _ _ _ _ ⟨rfl, rfl⟩ (Part.one _ rfl rfl) rfl rfl (Parts.nil _))) rfl rfl rfl rfl) (fun β3 => ?_)
 refine GoO.pure (ps_assign rfl rfl) ?_
 refine GoO.nil ?_
 refine GoK.code ?_
 obtain rfl := Option.some.inj H
 exact GoC.retL (ds := [.own β3 1 0 ([([5, 4] : List Int), ([3, 1] : List Int)] : List (List Int)).length]) Try.results43 (ResL.cons (ResD.le (ResD.tmp rfl) (by exact DLe.len (by first | rfl | omega | (simp only [row_len, gridC_len, rowO_len, List.length_cons, List.length_nil] <;> first | rfl | omega)))) (ResL.nil)) (Take.cons _ _ _ _ _ Rem.p0 (Take.nil _)) ⟨β3, rfl, rfl⟩

def weirkeep_assigns_F : Option (Bool) :=
 (weirkeep_gains_F).bind fun r1 =>
 (assign_Best_F r1).bind fun (r4, r6, r7) =>
 if r7 = 0 then
  if r6 = 7 then
   (slices_Equal_int_F r4 ([1, 0] : List Int)).bind fun r12 =>
   some r12
  else
   some false
 else
  some false
def weirkeep_assigns_P (out : Bool) (d : D) (H : List HL) : Prop := d = .v (.bool out) ∧ H = []
theorem weirkeep_assigns_I (out : Bool) : IndepP (weirkeep_assigns_P out) := IndepP.of (by rintro _ _ ⟨rfl, rfl⟩; exact ⟨inferInstance, inferInstance⟩)
set_option maxRecDepth 100000 in
set_option maxHeartbeats 4000000 in
theorem weirkeep_assigns_spec {out : Bool} (H : weirkeep_assigns_F = some out) : Does Try.prog 24 [] [] (weirkeep_assigns_P out) := by
 unfold weirkeep_assigns_F at H
 refine Does.intro Try.func24 rfl Try.ntmps24 rfl fun w0 I0 => ?_
 refine GoC.seq ?_
 refine GoC.region ?_
 refine GoO.pure (ps_assign rfl rfl) ?_
 refine GoO.nil ?_
 refine GoK.code ?_
 refine GoC.seq ?_
 refine GoC.region ?_
 have hb := bind_l H; clear H
 obtain ⟨r1, e3, H⟩ := hb
 refine GoO.callF rfl (Take.nil _) (Take.nil _) (weirkeep_gains_spec e3) (LendL.nil) rfl no_fps (fun rr HH hp => ?_)
 obtain ⟨β2, rfl, rfl⟩ := hp
 have hb := bind_l H; clear H
 obtain ⟨⟨r4, r6, r7⟩, e8, H⟩ := hb
 refine GoO.effC (ef_call rfl (Take.nil _) (Take.cons _ _ _ _ _ Rem.p0 (Take.nil _)) (assign_Best_spec r1 e8) (LendL.cons (Lend.all' At.p0 (by first | rfl | omega | (simp only [subl_length, cpl_length, List.length_set, List.length_append, List.length_cons, List.length_nil, List.length_replicate, row_len] <;> first | rfl | omega)) rfl) (LendL.nil)) rfl (assign_Best_I (r4, r6, r7))) (fun rr HH hp => ?_)
 obtain ⟨β5, rfl, rfl⟩ := hp
 refine GoO.pure (ps_move rfl rfl) ?_
 refine GoO.pure (ps_extract rfl rfl rfl) ?_
 refine GoO.pure (ps_extract rfl rfl rfl) ?_
 refine GoO.pure (ps_extract rfl rfl rfl) ?_
 refine GoO.pure (ps_assign rfl rfl) ?_
 refine GoO.pure (ps_assign rfl rfl) ?_
 refine GoO.pure (ps_assign rfl rfl) ?_
 refine GoO.nil ?_
 refine GoK.code ?_
 refine GoC.seq ?_
 refine GoC.region ?_
 refine GoO.pure (ps_move rfl rfl) ?_
 refine GoO.pure (ps_eql rfl rfl rfl) ?_
 refine GoO.pure (ps_move rfl rfl) ?_
 refine GoO.guardD rfl rfl rfl rfl (fun h9 => ?_) (fun h9 => ?_)
 replace H := ite_t h9 H
 refine GoO.pure (ps_move rfl rfl) ?_
 refine GoO.guardT rfl rfl rfl ?_
 refine GoO.pure (ps_eql rfl rfl rfl) ?_
 refine GoO.pure (ps_pickT rfl rfl rfl) ?_
 refine GoO.pure (ps_move rfl rfl) ?_
 refine GoO.guardD rfl rfl rfl rfl (fun h10 => ?_) (fun h10 => ?_)
 replace H := ite_t h10 H
 refine GoO.pure (ps_move rfl rfl) ?_
 refine GoO.guardT rfl rfl rfl ?_
 refine GoO.effB (ef_buildSlice (row ([1, 0] : List Int)) rfl (Parts.cons _ _ _ _ _ _ _ _ ⟨rfl, rfl⟩ (Part.one _ rfl rfl) rfl rfl (Parts.cons _ _ _ _ _ _ _ _ ⟨rfl, rfl⟩ (Part.one _ rfl rfl) rfl rfl (Parts.nil _))) rfl rfl rfl rfl) (fun β11 => ?_)
 refine GoO.guardT rfl rfl rfl ?_
 have hb := bind_l H; clear H
 obtain ⟨r12, e13, H⟩ := hb
 refine GoO.effC (ef_call rfl (Take.nil _) (Take.cons _ _ _ _ _ Rem.p1 (Take.cons _ _ _ _ _ Rem.p0 (Take.nil _))) (slices_Equal_int_spec r4 ([1, 0] : List Int) e13) (LendL.cons (Lend.all' At.p0 (by first | rfl | omega | (simp only [subl_length, cpl_length, List.length_set, List.length_append, List.length_cons, List.length_nil, List.length_replicate, row_len] <;> first | rfl | omega)) rfl) (LendL.cons (Lend.all' At.p1 (by first | rfl | omega | (simp only [subl_length, cpl_length, List.length_set, List.length_append, List.length_cons, List.length_nil, List.length_replicate, row_len] <;> first | rfl | omega)) rfl) (LendL.nil))) rfl (slices_Equal_int_I (r12))) (fun rr HH hp => ?_)
 obtain ⟨rfl, rfl⟩ := hp
 refine GoO.pure (ps_pickT rfl rfl rfl) ?_
 refine GoO.pure (ps_assign rfl rfl) ?_
 refine GoO.nil ?_
 refine GoK.code ?_
 obtain rfl := Option.some.inj H
 exact GoC.retL (ds := [.v (.bool r12)]) Try.results24 (ResL.cons (ResD.tmp rfl) (ResL.nil)) (Take.nil _) ⟨rfl, rfl⟩
 replace H := ite_f h10 H
 refine GoO.guardF rfl rfl rfl rfl ?_
 refine GoO.guardF rfl rfl rfl rfl ?_
 refine GoO.pure (ps_pickF rfl rfl rfl) ?_
 refine GoO.pure (ps_assign rfl rfl) ?_
 refine GoO.nil ?_
 refine GoK.code ?_
 obtain rfl := Option.some.inj H
 exact GoC.retL (ds := [.v (.bool false)]) Try.results24 (ResL.cons (ResD.tmp rfl) (ResL.nil)) (Take.nil _) ⟨rfl, rfl⟩
 replace H := ite_f h9 H
 refine GoO.guardF rfl rfl rfl rfl ?_
 refine GoO.pure (ps_pickF rfl rfl rfl) ?_
 refine GoO.pure (ps_move rfl rfl) ?_
 refine GoO.guardF rfl rfl rfl rfl ?_
 refine GoO.guardF rfl rfl rfl rfl ?_
 refine GoO.guardF rfl rfl rfl rfl ?_
 refine GoO.pure (ps_pickF rfl rfl rfl) ?_
 refine GoO.pure (ps_assign rfl rfl) ?_
 refine GoO.nil ?_
 refine GoK.code ?_
 obtain rfl := Option.some.inj H
 exact GoC.retL (ds := [.v (.bool false)]) Try.results24 (ResL.cons (ResD.tmp rfl) (ResL.nil)) (Take.nil _) ⟨rfl, rfl⟩

def weirkeep_doubles_F : Option (Bool) :=
 (double_Check_F ([([2, 1] : List Int), ([1, 2] : List Int)] : List (List Int))).bind fun (r4, r5) =>
 (double_Split_F ([([2, 1] : List Int), ([1, 2] : List Int)] : List (List Int))).bind fun (r10, r12) =>
 if r5 = 0 then
  if r4 = 3 then
   if r12 = 0 then
    if ((r10.length : Nat) : Int) = 2 then
     ck (0 < r10.length) <|
     if ((r10.getD 0 El.d).amount) = 2 then
      ck (1 < r10.length) <|
      (slices_Equal_int_F ((r10.getD 1 El.d).arcs) ([1, 0] : List Int)).bind fun r23 =>
      some r23
     else
      some false
    else
     some false
   else
    some false
  else
   some false
 else
  some false
def weirkeep_doubles_P (out : Bool) (d : D) (H : List HL) : Prop := d = .v (.bool out) ∧ H = []
theorem weirkeep_doubles_I (out : Bool) : IndepP (weirkeep_doubles_P out) := IndepP.of (by rintro _ _ ⟨rfl, rfl⟩; exact ⟨inferInstance, inferInstance⟩)
set_option maxRecDepth 100000 in
set_option maxHeartbeats 4000000 in
theorem weirkeep_doubles_spec {out : Bool} (H : weirkeep_doubles_F = some out) : Does Try.prog 27 [] [] (weirkeep_doubles_P out) := by
 unfold weirkeep_doubles_F at H
 refine Does.intro Try.func27 rfl Try.ntmps27 rfl fun w0 I0 => ?_
 refine GoC.seq ?_
 refine GoC.region ?_
 refine GoO.pure (ps_assign rfl rfl) ?_
 refine GoO.nil ?_
 refine GoK.code ?_
 refine GoC.seq ?_
 refine GoC.region ?_
 refine GoO.effB (ef_buildSlice (row ([2, 1] : List Int)) rfl (Parts.cons _ _ _ _ _ _ _ _ ⟨rfl, rfl⟩ (Part.one _ rfl rfl) rfl rfl (Parts.cons _ _ _ _ _ _ _ _ ⟨rfl, rfl⟩ (Part.one _ rfl rfl) rfl rfl (Parts.nil _))) rfl rfl rfl rfl) (fun β1 => ?_)
 refine GoO.effB (ef_buildSlice (row ([1, 2] : List Int)) rfl (Parts.cons _ _ _ _ _ _ _ _ ⟨rfl, rfl⟩ (Part.one _ rfl rfl) rfl rfl (Parts.cons _ _ _ _ _ _ _ _ ⟨rfl, rfl⟩ (Part.one _ rfl rfl) rfl rfl (Parts.nil _))) rfl rfl rfl rfl) (fun β2 => ?_)
 refine GoO.freezeJ (j := 6) rfl Rem.p1 (Lend.all' At.p0 (by first | rfl | omega | (simp only [row_len, gridC_len, rowO_len, List.length_cons, List.length_nil] <;> first | rfl | omega)) rfl) no_fps ?_
 refine GoO.freezeJ (j := 7) rfl Rem.p0 (Lend.all' At.p0 (by first | rfl | omega | (simp only [row_len, gridC_len, rowO_len, List.length_cons, List.length_nil] <;> first | rfl | omega)) rfl) no_fps ?_
 refine GoO.effB (ef_buildSlice (row ([([2, 1] : List Int), ([1, 2] : List Int)] : List (List Int))) rfl (Parts.cons _ _ _ _ _ _ _ _ ⟨rfl, rfl⟩ (Part.one _ rfl rfl) rfl rfl (Parts.cons _ _ _ _ _ _ _ _ ⟨rfl, rfl⟩ (Part.one _ rfl rfl) rfl rfl (Parts.nil _))) rfl rfl rfl rfl) (fun β3 => ?_)
 have hb := bind_l H; clear H
 obtain ⟨⟨r4, r5⟩, e6, H⟩ := hb
 refine GoO.effC (ef_call rfl (Take.nil _) (Take.cons _ _ _ _ _ Rem.p0 (Take.nil _)) (double_Check_spec ([([2, 1] : List Int), ([1, 2] : List Int)] : List (List Int)) e6) (LendL.cons (Lend.all' At.p0 (by first | rfl | omega | (simp only [subl_length, cpl_length, List.length_set, List.length_append, List.length_cons, List.length_nil, List.length_replicate, row_len] <;> first | rfl | omega)) rfl) (LendL.nil)) rfl (double_Check_I (r4, r5))) (fun rr HH hp => ?_)
 obtain ⟨rfl, rfl⟩ := hp
 refine GoO.pure (ps_move rfl rfl) ?_
 refine GoO.pure (ps_extract rfl rfl rfl) ?_
 refine GoO.pure (ps_extract rfl rfl rfl) ?_
 refine GoO.pure (ps_assign rfl rfl) ?_
 refine GoO.pure (ps_assign rfl rfl) ?_
 refine GoO.nil ?_
 refine GoK.code ?_
 refine GoC.seq ?_
 refine GoC.region ?_
 refine GoO.effB (ef_buildSlice (row ([2, 1] : List Int)) rfl (Parts.cons _ _ _ _ _ _ _ _ ⟨rfl, rfl⟩ (Part.one _ rfl rfl) rfl rfl (Parts.cons _ _ _ _ _ _ _ _ ⟨rfl, rfl⟩ (Part.one _ rfl rfl) rfl rfl (Parts.nil _))) rfl rfl rfl rfl) (fun β7 => ?_)
 refine GoO.effB (ef_buildSlice (row ([1, 2] : List Int)) rfl (Parts.cons _ _ _ _ _ _ _ _ ⟨rfl, rfl⟩ (Part.one _ rfl rfl) rfl rfl (Parts.cons _ _ _ _ _ _ _ _ ⟨rfl, rfl⟩ (Part.one _ rfl rfl) rfl rfl (Parts.nil _))) rfl rfl rfl rfl) (fun β8 => ?_)
 refine GoO.freezeJ (j := 13) rfl Rem.p1 (Lend.all' At.p0 (by first | rfl | omega | (simp only [row_len, gridC_len, rowO_len, List.length_cons, List.length_nil] <;> first | rfl | omega)) rfl) no_fps ?_
 refine GoO.freezeJ (j := 14) rfl Rem.p0 (Lend.all' At.p0 (by first | rfl | omega | (simp only [row_len, gridC_len, rowO_len, List.length_cons, List.length_nil] <;> first | rfl | omega)) rfl) no_fps ?_
 refine GoO.effB (ef_buildSlice (row ([([2, 1] : List Int), ([1, 2] : List Int)] : List (List Int))) rfl (Parts.cons _ _ _ _ _ _ _ _ ⟨rfl, rfl⟩ (Part.one _ rfl rfl) rfl rfl (Parts.cons _ _ _ _ _ _ _ _ ⟨rfl, rfl⟩ (Part.one _ rfl rfl) rfl rfl (Parts.nil _))) rfl rfl rfl rfl) (fun β9 => ?_)
 have hb := bind_l H; clear H
 obtain ⟨⟨r10, r12⟩, e13, H⟩ := hb
 refine GoO.callF rfl (Take.nil _) (Take.cons _ _ _ _ _ Rem.p0 (Take.nil _)) (double_Split_spec ([([2, 1] : List Int), ([1, 2] : List Int)] : List (List Int)) e13) (LendL.cons (Lend.all' At.p0 (by first | rfl | omega | (simp only [subl_length, cpl_length, List.length_set, List.length_append, List.length_cons, List.length_nil, List.length_replicate, row_len] <;> first | rfl | omega)) rfl) (LendL.nil)) rfl no_fps (fun rr HH hp => ?_)
 obtain ⟨β11, rfl, rfl⟩ := hp
 refine GoO.pure (ps_move rfl rfl) ?_
 refine GoO.pure (ps_extract rfl rfl rfl) ?_
 refine GoO.pure (ps_extract rfl rfl rfl) ?_
 refine GoO.pure (ps_assign rfl rfl) ?_
 refine GoO.pure (ps_assign rfl rfl) ?_
 refine GoO.nil ?_
 refine GoK.code ?_
 refine GoC.seq ?_
 refine GoC.region ?_
 refine GoO.pure (ps_move rfl rfl) ?_
 refine GoO.pure (ps_eql rfl rfl rfl) ?_
 refine GoO.pure (ps_move rfl rfl) ?_
 refine GoO.guardD rfl rfl rfl rfl (fun h14 => ?_) (fun h14 => ?_)
 replace H := ite_t h14 H
 refine GoO.pure (ps_move rfl rfl) ?_
 refine GoO.guardT rfl rfl rfl ?_
 refine GoO.pure (ps_eql rfl rfl rfl) ?_
 refine GoO.pure (ps_pickT rfl rfl rfl) ?_
 refine GoO.pure (ps_move rfl rfl) ?_
 refine GoO.guardD rfl rfl rfl rfl (fun h15 => ?_) (fun h15 => ?_)
 replace H := ite_t h15 H
 refine GoO.pure (ps_move rfl rfl) ?_
 refine GoO.guardT rfl rfl rfl ?_
 refine GoO.pure (ps_eql rfl rfl rfl) ?_
 refine GoO.pure (ps_pickT rfl rfl rfl) ?_
 refine GoO.pure (ps_move rfl rfl) ?_
 refine GoO.guardD rfl rfl rfl rfl (fun h16 => ?_) (fun h16 => ?_)
 replace H := ite_t h16 H
 refine GoO.pure (ps_move rfl rfl) ?_
 refine GoO.guardT rfl rfl rfl ?_
 refine GoO.pure (ps_len rfl (by constructor) rfl) ?_
 refine GoO.lenLe (n := r10.length) (x := .tmp 30) rfl (by constructor) own_lenLe (fun ml17 => ?_)
 refine GoO.guardT rfl rfl rfl ?_
 refine GoO.pure (ps_eql rfl rfl rfl) ?_
 refine GoO.pure (ps_pickT rfl rfl rfl) ?_
 refine GoO.pure (ps_move rfl rfl) ?_
 refine GoO.guardD rfl rfl rfl rfl (fun h18 => ?_) (fun h18 => ?_)
 replace H := ite_t h18 H
 refine GoO.pure (ps_move rfl rfl) ?_
 refine GoO.guardT rfl rfl rfl ?_
 have c19 := ck_l H; replace H := ck_r H
 refine GoO.pure (ps_indexAddr0N (i := 0) rfl rfl c19 rfl) ?_
 refine GoO.guardT rfl rfl rfl ?_
 refine GoO.pure (ps_fieldAddr rfl rfl) ?_
 refine GoO.guardT rfl rfl rfl ?_
 refine GoO.pure (ps_load rfl At.p0 At.p0 c19 rfl rfl) ?_
 refine GoO.guardT rfl rfl rfl ?_
 refine GoO.pure (ps_eql rfl rfl rfl) ?_
 refine GoO.pure (ps_pickT rfl rfl rfl) ?_
 refine GoO.pure (ps_move rfl rfl) ?_
 refine GoO.guardD rfl rfl rfl rfl (fun h20 => ?_) (fun h20 => ?_)
 replace H := ite_t h20 H
 refine GoO.pure (ps_move rfl rfl) ?_
 refine GoO.guardT rfl rfl rfl ?_
 have c21 := ck_l H; replace H := ck_r H
 refine GoO.pure (ps_indexAddr0N (i := 1) rfl rfl c21 rfl) ?_
 refine GoO.guardT rfl rfl rfl ?_
 refine GoO.pure (ps_fieldAddr rfl rfl) ?_
 refine GoO.guardT rfl rfl rfl ?_
 refine GoO.pure (ps_load rfl At.p0 At.p0 c21 rfl rfl) ?_
 refine GoO.guardT rfl rfl rfl ?_
 refine GoO.effB (ef_buildSlice (row ([1, 0] : List Int)) rfl (Parts.cons _ _ _ _ _ _ _ _ ⟨rfl, rfl⟩ (Part.one _ rfl rfl) rfl rfl (Parts.cons _ _ _ _ _ _ _ _ ⟨rfl, rfl⟩ (Part.one _ rfl rfl) rfl rfl (Parts.nil _))) rfl rfl rfl rfl) (fun β22 => ?_)
 refine GoO.guardT rfl rfl rfl ?_
 have hb := bind_l H; clear H
 obtain ⟨r23, e24, H⟩ := hb
 refine GoO.effC (ef_call rfl (Take.nil _) (Take.cons _ _ _ _ _ Rem.p0 (Take.nil _)) (slices_Equal_int_spec ((r10.getD 1 El.d).arcs) ([1, 0] : List Int) e24) (LendL.cons (Lend.refl _ _) (LendL.cons (Lend.all' At.p0 (by first | rfl | omega | (simp only [subl_length, cpl_length, List.length_set, List.length_append, List.length_cons, List.length_nil, List.length_replicate, row_len] <;> first | rfl | omega)) rfl) (LendL.nil))) rfl (slices_Equal_int_I (r23))) (fun rr HH hp => ?_)
 obtain ⟨rfl, rfl⟩ := hp
 refine GoO.pure (ps_pickT rfl rfl rfl) ?_
 refine GoO.pure (ps_assign rfl rfl) ?_
 refine GoO.nil ?_
 refine GoK.code ?_
 obtain rfl := Option.some.inj H
 exact GoC.retL (ds := [.v (.bool r23)]) Try.results27 (ResL.cons (ResD.tmp rfl) (ResL.nil)) (Take.nil _) ⟨rfl, rfl⟩
 replace H := ite_f h20 H
 refine GoO.guardF rfl rfl rfl rfl ?_
 refine GoO.guardF rfl rfl rfl rfl ?_
 refine GoO.guardF rfl rfl rfl rfl ?_
 refine GoO.guardF rfl rfl rfl rfl ?_
 refine GoO.guardF rfl rfl rfl rfl ?_
 refine GoO.pure (ps_pickF rfl rfl rfl) ?_
 refine GoO.pure (ps_assign rfl rfl) ?_
 refine GoO.nil ?_
 refine GoK.code ?_
 obtain rfl := Option.some.inj H
 exact GoC.retL (ds := [.v (.bool false)]) Try.results27 (ResL.cons (ResD.tmp rfl) (ResL.nil)) (Take.nil _) ⟨rfl, rfl⟩
 replace H := ite_f h18 H
 refine GoO.guardF rfl rfl rfl rfl ?_
 refine GoO.guardF rfl rfl rfl rfl ?_
 refine GoO.guardF rfl rfl rfl rfl ?_
 refine GoO.guardF rfl rfl rfl rfl ?_
 refine GoO.pure (ps_pickF rfl rfl rfl) ?_
 refine GoO.pure (ps_move rfl rfl) ?_
 refine GoO.guardF rfl rfl rfl rfl ?_
 refine GoO.guardF rfl rfl rfl rfl ?_
 refine GoO.guardF rfl rfl rfl rfl ?_
 refine GoO.guardF rfl rfl rfl rfl ?_
 refine GoO.guardF rfl rfl rfl rfl ?_
 refine GoO.guardF rfl rfl rfl rfl ?_
 refine GoO.pure (ps_pickF rfl rfl rfl) ?_
 refine GoO.pure (ps_assign rfl rfl) ?_
 refine GoO.nil ?_
 refine GoK.code ?_
 obtain rfl := Option.some.inj H
 exact GoC.retL (ds := [.v (.bool false)]) Try.results27 (ResL.cons (ResD.tmp rfl) (ResL.nil)) (Take.nil _) ⟨rfl, rfl⟩
 replace H := ite_f h16 H
 refine GoO.guardF rfl rfl rfl rfl ?_
 refine GoO.guardF rfl rfl rfl rfl ?_
 refine GoO.pure (ps_pickF rfl rfl rfl) ?_
 refine GoO.pure (ps_move rfl rfl) ?_
 refine GoO.guardF rfl rfl rfl rfl ?_
 refine GoO.guardF rfl rfl rfl rfl ?_
 refine GoO.guardF rfl rfl rfl rfl ?_
 refine GoO.guardF rfl rfl rfl rfl ?_
 refine GoO.guardF rfl rfl rfl rfl ?_
 refine GoO.pure (ps_pickF rfl rfl rfl) ?_
 refine GoO.pure (ps_move rfl rfl) ?_
 refine GoO.guardF rfl rfl rfl rfl ?_
 refine GoO.guardF rfl rfl rfl rfl ?_
 refine GoO.guardF rfl rfl rfl rfl ?_
 refine GoO.guardF rfl rfl rfl rfl ?_
 refine GoO.guardF rfl rfl rfl rfl ?_
 refine GoO.guardF rfl rfl rfl rfl ?_
 refine GoO.pure (ps_pickF rfl rfl rfl) ?_
 refine GoO.pure (ps_assign rfl rfl) ?_
 refine GoO.nil ?_
 refine GoK.code ?_
 obtain rfl := Option.some.inj H
 exact GoC.retL (ds := [.v (.bool false)]) Try.results27 (ResL.cons (ResD.tmp rfl) (ResL.nil)) (Take.nil _) ⟨rfl, rfl⟩
 replace H := ite_f h15 H
 refine GoO.guardF rfl rfl rfl rfl ?_
 refine GoO.pure (ps_pickF rfl rfl rfl) ?_
 refine GoO.pure (ps_move rfl rfl) ?_
 refine GoO.guardF rfl rfl rfl rfl ?_
 refine GoO.guardF rfl rfl rfl rfl ?_
 refine GoO.guardF rfl rfl rfl rfl ?_
 refine GoO.pure (ps_pickF rfl rfl rfl) ?_
 refine GoO.pure (ps_move rfl rfl) ?_
 refine GoO.guardF rfl rfl rfl rfl ?_
 refine GoO.guardF rfl rfl rfl rfl ?_
 refine GoO.guardF rfl rfl rfl rfl ?_
 refine GoO.guardF rfl rfl rfl rfl ?_
 refine GoO.guardF rfl rfl rfl rfl ?_
 refine GoO.pure (ps_pickF rfl rfl rfl) ?_
 refine GoO.pure (ps_move rfl rfl) ?_
 refine GoO.guardF rfl rfl rfl rfl ?_
 refine GoO.guardF rfl rfl rfl rfl ?_
 refine GoO.guardF rfl rfl rfl rfl ?_
 refine GoO.guardF rfl rfl rfl rfl ?_
 refine GoO.guardF rfl rfl rfl rfl ?_
 refine GoO.guardF rfl rfl rfl rfl ?_
 refine GoO.pure (ps_pickF rfl rfl rfl) ?_
 refine GoO.pure (ps_assign rfl rfl) ?_
 refine GoO.nil ?_
 refine GoK.code ?_
 obtain rfl := Option.some.inj H
 exact GoC.retL (ds := [.v (.bool false)]) Try.results27 (ResL.cons (ResD.tmp rfl) (ResL.nil)) (Take.nil _) ⟨rfl, rfl⟩
 replace H := ite_f h14 H
 refine GoO.guardF rfl rfl rfl rfl ?_
 refine GoO.pure (ps_pickF rfl rfl rfl) ?_
 refine GoO.pure (ps_move rfl rfl) ?_
 refine GoO.guardF rfl rfl rfl rfl ?_
 refine GoO.guardF rfl rfl rfl rfl ?_
 refine GoO.pure (ps_pickF rfl rfl rfl) ?_
 refine GoO.pure (ps_move rfl rfl) ?_
 refine GoO.guardF rfl rfl rfl rfl ?_
 refine GoO.guardF rfl rfl rfl rfl ?_
 refine GoO.guardF rfl rfl rfl rfl ?_
 refine GoO.pure (ps_pickF rfl rfl rfl) ?_
 refine GoO.pure (ps_move rfl rfl) ?_
 refine GoO.guardF rfl rfl rfl rfl ?_
 refine GoO.guardF rfl rfl rfl rfl ?_
 refine GoO.guardF rfl rfl rfl rfl ?_
 refine GoO.guardF rfl rfl rfl rfl ?_
 refine GoO.guardF rfl rfl rfl rfl ?_
 refine GoO.pure (ps_pickF rfl rfl rfl) ?_
 refine GoO.pure (ps_move rfl rfl) ?_
 refine GoO.guardF rfl rfl rfl rfl ?_
 refine GoO.guardF rfl rfl rfl rfl ?_
 refine GoO.guardF rfl rfl rfl rfl ?_
 refine GoO.guardF rfl rfl rfl rfl ?_
 refine GoO.guardF rfl rfl rfl rfl ?_
 refine GoO.guardF rfl rfl rfl rfl ?_
 refine GoO.pure (ps_pickF rfl rfl rfl) ?_
 refine GoO.pure (ps_assign rfl rfl) ?_
 refine GoO.nil ?_
 refine GoK.code ?_
 obtain rfl := Option.some.inj H
 exact GoC.retL (ds := [.v (.bool false)]) Try.results27 (ResL.cons (ResD.tmp rfl) (ResL.nil)) (Take.nil _) ⟨rfl, rfl⟩

end Go.Proofs.Ytkpdkigkhbkfiaa
