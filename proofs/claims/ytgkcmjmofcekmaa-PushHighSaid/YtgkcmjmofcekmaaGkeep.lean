/- The functions weirkeep.arcs, weirkeep.weir, weirkeep.mosts, weirkeep.pushes, weirkeep.pushed, told as plain functions, and that the code does as they say. -/
import Derived.Test.YtgkcmjmofcekmaaTys
import Derived.Test.YtgkcmjmofcekmaaDat
import Derived.Test.YtgkcmjmofcekmaaGflow
import Derived.Test.YtgkcmjmofcekmaaGmost
import Derived.Test.YtgkcmjmofcekmaaGpush
import Derived.Test.YtgkcmjmofcekmaaGref
import Derived.Test.YtgkcmjmofcekmaaGslices
namespace Go.Proofs.Ytgkcmjmofcekmaa
open Go Go.Proofs.Ytgkcmjmofcekmaa.Sx
set_option linter.unusedVariables false
set_option linter.unusedSimpArgs false
def weirkeep_arcs_B1 (l : (List T3)) : Nat → (List Arc) → Option ((List Arc)) := fun k8 l3 =>
 ck (l3.length + 1 ≤ 5864062014805) <|
 some (l3 ++ ([(⟨(l.getD k8 El.d).x0, (l.getD k8 El.d).x1, (l.getD k8 El.d).x2⟩ : Arc)] : List Arc))
def weirkeep_arcs_F (l : (List T3)) : Option ((List Arc)) :=
 (forN (weirkeep_arcs_B1 l) l.length 0 []).bind fun l7 =>
 some l7
def weirkeep_arcs_P (out : (List Arc)) (d : D) (H : List HL) : Prop := ∃ β1 : BK, d = .own β1 3 0 out.length ∧ H = [.one β1 46 3 (row out)]
theorem weirkeep_arcs_I (out : (List Arc)) : IndepP (weirkeep_arcs_P out) := IndepP.of (by rintro _ _ ⟨β1, rfl, rfl⟩; exact ⟨inferInstance, inferInstance⟩)
set_option maxRecDepth 100000 in
set_option maxHeartbeats 4000000 in
theorem weirkeep_arcs_spec (l : (List T3)) {out : (List Arc)} (H : weirkeep_arcs_F l = some out) : Does Try.prog 21 [slD l] [] (weirkeep_arcs_P out) := by
 unfold weirkeep_arcs_F at H
 refine Does.intro Try.func21 rfl Try.ntmps21 rfl fun w0 I0 tb0 => ?_
 refine GoC.seq ?_
 refine GoC.region ?_
 refine GoO.pure (ps_assign rfl rfl) ?_
 refine GoO.nil ?_
 refine GoK.code ?_
 refine GoC.seq ?_
 refine GoC.region ?_
 refine GoO.pure (ps_assign rfl rfl) ?_
 refine GoO.nil ?_
 refine GoK.code ?_
 refine GoC.seq ?_
 refine GoC.seq ?_
 refine GoC.region ?_
 refine GoO.pure (ps_move rfl rfl) ?_
 refine GoO.pure (ps_len rfl (by constructor) rfl) ?_
 refine GoO.lenLe (n := l.length) (x := .tmp 6) rfl (by constructor) sl_lenLe (fun ml1 => ?_)
 refine GoO.pure (ps_move rfl rfl) ?_
 refine GoO.nil ?_
 refine GoK.code ?_
 have hb := bind_l H; clear H
 obtain ⟨l7, hl14, HK4⟩ := hb
 refine GoC.blockJ [] [] (fun v h => ∃ (β2 : BK), v = [(3, .own β2 3 0 l7.length)] ∧ h = [.one β2 46 3 (row l7)]) ?_ ?_
 refine GoC.loopJ [(6, _), (7, _)] [] (fun mQ v h => ∃ (k8 : Nat) (l3 : (List Arc)) (β2 : BK), (k8 + mQ = l.length ∧ forN (weirkeep_arcs_B1 l) mQ k8 l3 = some l7) ∧ v = [(8, .v (.int .i64 ((k8 : Nat) : Int))), (3, .own β2 3 0 l3.length)] ∧ h = [.one β2 46 3 (row l3)]) l.length ⟨_, _, ⟨0, 0, 0⟩, ⟨by omega, hl14⟩, rfl, rfl⟩ (EnvD.eq rfl (EnvD.cons rfl (DLe.nilOwn) (EnvD.eq rfl (EnvD.eq rfl (EnvD.nil))))) (TkD.no _ _ _ _ _ rfl (TkD.nil _)) ?_
 rintro m9 v h ⟨k8, l3, β2, ⟨hkk8, hF5⟩, rfl, rfl⟩
 refine GoC.seq ?_
 refine GoC.region ?_
 refine GoO.pure (ps_lss rfl rfl rfl) ?_
 refine GoO.nil ?_
 refine GoK.code ?_
 refine GoC.seq ?_
 refine GoC.condD rfl (fun (hk8 : (k8 : Int) < ((l.length : Nat) : Int)) => ?_) (fun (hk8 : ¬ (k8 : Int) < ((l.length : Nat) : Int)) => ?_)
 obtain ⟨m9', rfl⟩ : ∃ x, m9 = x + 1 := ⟨m9 - 1, by omega⟩
 have hb := bind_l hF5; clear hF5
 obtain ⟨qrm9, H, hF5⟩ := hb
 have hnk8 : k8 < l.length := by omega
 have hIk8 : InI ((k8 : Int) + 1) := inI_len hk8 ml1
 refine GoC.skip ?_
 refine GoK.code ?_
 refine GoC.seq ?_
 refine GoC.block ?_
 refine GoC.seq ?_
 refine GoC.region ?_
 refine GoO.pure (ps_indexAddrRN rfl rfl hnk8 rfl) ?_
 refine GoO.pure (ps_loadAgR rfl hnk8 rfl rfl) ?_
 refine GoO.effB (ef_alloc rfl) (fun β10 => ?_)
 refine GoO.eff1 (ef_storeAg rfl rfl At.p0 upd_whole Nat.zero_lt_one rfl) ?_
 refine GoO.nil ?_
 refine GoK.code ?_
 refine GoC.region ?_
 refine GoO.pure (ps_move rfl rfl) ?_
 refine GoO.pure (ps_indexAddrA rfl rfl ⟨by decide, by decide⟩ rfl) ?_
 refine GoO.pure (ps_load rfl At.p0 At.p0 Nat.zero_lt_one rfl rfl) ?_
 refine GoO.pure (ps_indexAddrA rfl rfl ⟨by decide, by decide⟩ rfl) ?_
 refine GoO.pure (ps_load rfl At.p0 At.p0 Nat.zero_lt_one rfl rfl) ?_
 refine GoO.pure (ps_indexAddrA rfl rfl ⟨by decide, by decide⟩ rfl) ?_
 refine GoO.pure (ps_load rfl At.p0 At.p0 Nat.zero_lt_one rfl rfl) ?_
 refine GoO.pure (ps_build (Parts.cons _ _ _ _ _ _ _ _ FdP.of (Part.one _ rfl rfl) rfl rfl (Parts.cons _ _ _ _ _ _ _ _ FdP.of (Part.one _ rfl rfl) rfl rfl (Parts.cons _ _ _ _ _ _ _ _ FdP.of (Part.one _ rfl rfl) rfl rfl (Parts.nil _)))) rfl) ?_
 refine GoO.effB (ef_buildSlice (row ([(⟨(l.getD k8 El.d).x0, (l.getD k8 El.d).x1, (l.getD k8 El.d).x2⟩ : Arc)] : List Arc)) rfl (Parts.cons _ _ _ _ _ _ _ _ ⟨rfl, rfl⟩ (Part.ag _ _ rfl) rfl rfl (Parts.nil _)) rfl rfl rfl rfl) (fun β11 => ?_)
 have c13 := ck_l H; replace H := ck_r H
 refine GoO.effB (ef_append rfl rfl Rem.p2 (Src.own At.p0 (by first | omega | (simp only [subl_length, cpl_length, List.length_set, List.length_append, List.length_cons, List.length_nil, List.length_replicate, row_len]; omega) | (simp only [subl_length, cpl_length, List.length_set, List.length_append, List.length_cons, List.length_nil, List.length_replicate, row_len]; done))) (cat_row (α := Arc) (by first | rfl | omega | (simp only [subl_length, cpl_length, List.length_set, List.length_append, List.length_cons, List.length_nil, List.length_replicate, row_len] <;> first | rfl | omega)) (by first | rfl | omega | (simp only [subl_length, cpl_length, List.length_set, List.length_append, List.length_cons, List.length_nil, List.length_replicate, row_len] <;> first | rfl | omega)) (fun _ _ _ _ => rfl)) (by first | omega | (simp only [subl_length, cpl_length, List.length_set, List.length_append, List.length_cons, List.length_nil, List.length_replicate, row_len]; omega) | (simp only [subl_length, cpl_length, List.length_set, List.length_append, List.length_cons, List.length_nil, List.length_replicate, row_len]; done)) (app_le c13 rfl) rfl rfl rfl) (fun β12 => ?_)
 refine GoO.pure (ps_assign rfl rfl) ?_
 refine GoO.nil ?_
 refine GoK.blk ?_
 refine GoK.code ?_
 refine GoC.region ?_
 refine GoO.pure (ps_add rfl rfl rfl hIk8) ?_
 refine GoO.pure (ps_move rfl rfl) ?_
 refine GoO.nil ?_
 obtain rfl := Option.some.inj H
 exact GoK.againJ m9' (by omega) ⟨_, _, β12, ⟨by omega, hF5⟩, rfl, rfl⟩ (EnvD.eq rfl (EnvD.cons rfl (DLe.len (by first | rfl | omega | (simp only [row_len, gridC_len, rowO_len, List.length_append, List.length_cons, List.length_nil] <;> first | rfl | omega))) (EnvD.eq rfl (EnvD.eq rfl (EnvD.nil))))) (TkD.cons _ _ _ _ _ Rem.p0 (HLe.refl _) (TkD.nil _))
 obtain rfl : m9 = 0 := by omega
 refine GoC.exit rfl ?_
 cases hF5
 exact GoK.meet ⟨β2, rfl, rfl⟩ (EnvD.cons rfl (DLe.len (by first | rfl | omega | (simp only [row_len, gridC_len, rowO_len] <;> first | rfl | omega))) (EnvD.nil)) (TkD.cons _ _ _ _ _ Rem.p0 (HLe.refl _) (TkD.nil _))
 rintro v h ⟨β2, rfl, rfl⟩
 have H := HK4; clear HK4
 refine GoK.code ?_
 refine GoC.seq ?_
 refine GoC.region ?_
 refine GoO.pure (ps_move rfl rfl) ?_
 refine GoO.pure (ps_assign rfl rfl) ?_
 refine GoO.nil ?_
 refine GoK.code ?_
 obtain rfl := Option.some.inj H
 exact GoC.retL (ds := [.own β2 3 0 l7.length]) Try.results21 (ResL.cons (ResD.tmp rfl) (ResL.nil)) (Take.cons _ _ _ _ _ Rem.p0 (Take.nil _)) ⟨β2, rfl, rfl⟩

def weirkeep_weir_F : Option (Net) :=
 (weirkeep_arcs_F ([(⟨0, 1, 4⟩ : T3), (⟨0, 2, 3⟩ : T3), (⟨1, 3, 2⟩ : T3), (⟨1, 2, 1⟩ : T3), (⟨2, 3, 3⟩ : T3)] : List T3)).bind fun r3 =>
 some (⟨4, 0, 3, r3⟩ : Net)
def weirkeep_weir_P (out : Net) (d : D) (H : List HL) : Prop := ∃ β1 : BK, d = .ag 4 (nth [.v (.int .i64 out.n), .v (.int .i64 out.s), .v (.int .i64 out.t), .own β1 3 0 out.as.length]) ∧ H = [.one β1 46 3 (row out.as)]
theorem weirkeep_weir_I (out : Net) : IndepP (weirkeep_weir_P out) := IndepP.of (by rintro _ _ ⟨β1, rfl, rfl⟩; exact ⟨inferInstance, inferInstance⟩)
set_option maxRecDepth 100000 in
set_option maxHeartbeats 4000000 in
theorem weirkeep_weir_spec {out : Net} (H : weirkeep_weir_F = some out) : Does Try.prog 16 [] [] (weirkeep_weir_P out) := by
 unfold weirkeep_weir_F at H
 refine Does.intro Try.func16 rfl Try.ntmps16 rfl fun w0 I0 tb0 => ?_
 refine GoC.seq ?_
 refine GoC.region ?_
 refine GoO.effB (ef_alloc rfl) (fun β1 => ?_)
 refine GoO.nil ?_
 refine GoK.code ?_
 refine GoC.seq ?_
 refine GoC.region ?_
 refine GoO.pure (ps_buildA (Parts.cons _ _ _ _ _ _ _ _ ⟨rfl, rfl⟩ (Part.one _ rfl rfl) rfl rfl (Parts.cons _ _ _ _ _ _ _ _ ⟨rfl, rfl⟩ (Part.one _ rfl rfl) rfl rfl (Parts.cons _ _ _ _ _ _ _ _ ⟨rfl, rfl⟩ (Part.one _ rfl rfl) rfl rfl (Parts.nil _)))) rfl) ?_
 refine GoO.pure (ps_buildA (Parts.cons _ _ _ _ _ _ _ _ ⟨rfl, rfl⟩ (Part.one _ rfl rfl) rfl rfl (Parts.cons _ _ _ _ _ _ _ _ ⟨rfl, rfl⟩ (Part.one _ rfl rfl) rfl rfl (Parts.cons _ _ _ _ _ _ _ _ ⟨rfl, rfl⟩ (Part.one _ rfl rfl) rfl rfl (Parts.nil _)))) rfl) ?_
 refine GoO.pure (ps_buildA (Parts.cons _ _ _ _ _ _ _ _ ⟨rfl, rfl⟩ (Part.one _ rfl rfl) rfl rfl (Parts.cons _ _ _ _ _ _ _ _ ⟨rfl, rfl⟩ (Part.one _ rfl rfl) rfl rfl (Parts.cons _ _ _ _ _ _ _ _ ⟨rfl, rfl⟩ (Part.one _ rfl rfl) rfl rfl (Parts.nil _)))) rfl) ?_
 refine GoO.pure (ps_buildA (Parts.cons _ _ _ _ _ _ _ _ ⟨rfl, rfl⟩ (Part.one _ rfl rfl) rfl rfl (Parts.cons _ _ _ _ _ _ _ _ ⟨rfl, rfl⟩ (Part.one _ rfl rfl) rfl rfl (Parts.cons _ _ _ _ _ _ _ _ ⟨rfl, rfl⟩ (Part.one _ rfl rfl) rfl rfl (Parts.nil _)))) rfl) ?_
 refine GoO.pure (ps_buildA (Parts.cons _ _ _ _ _ _ _ _ ⟨rfl, rfl⟩ (Part.one _ rfl rfl) rfl rfl (Parts.cons _ _ _ _ _ _ _ _ ⟨rfl, rfl⟩ (Part.one _ rfl rfl) rfl rfl (Parts.cons _ _ _ _ _ _ _ _ ⟨rfl, rfl⟩ (Part.one _ rfl rfl) rfl rfl (Parts.nil _)))) rfl) ?_
 refine GoO.effB (ef_buildSlice (row ([(⟨0, 1, 4⟩ : T3), (⟨0, 2, 3⟩ : T3), (⟨1, 3, 2⟩ : T3), (⟨1, 2, 1⟩ : T3), (⟨2, 3, 3⟩ : T3)] : List T3)) rfl (Parts.cons _ _ _ _ _ _ _ _ ⟨rfl, rfl⟩ (Part.ag _ _ rfl) rfl rfl (Parts.cons _ _ _ _ _ _ _ _ ⟨rfl, rfl⟩ (Part.ag _ _ rfl) rfl rfl (Parts.cons _ _ _ _ _ _ _ _ ⟨rfl, rfl⟩ (Part.ag _ _ rfl) rfl rfl (Parts.cons _ _ _ _ _ _ _ _ ⟨rfl, rfl⟩ (Part.ag _ _ rfl) rfl rfl (Parts.cons _ _ _ _ _ _ _ _ ⟨rfl, rfl⟩ (Part.ag _ _ rfl) rfl rfl (Parts.nil _)))))) rfl rfl rfl rfl) (fun β2 => ?_)
 have hb := bind_l H; clear H
 obtain ⟨r3, e5, H⟩ := hb
 refine GoO.effC (ef_call rfl (Take.nil _) (Take.cons _ _ _ _ _ Rem.p0 (Take.nil _)) (weirkeep_arcs_spec ([(⟨0, 1, 4⟩ : T3), (⟨0, 2, 3⟩ : T3), (⟨1, 3, 2⟩ : T3), (⟨1, 2, 1⟩ : T3), (⟨2, 3, 3⟩ : T3)] : List T3) e5) (LendL.cons (Lend.all' At.p0 (by first | rfl | omega | (simp only [subl_length, cpl_length, List.length_set, List.length_append, List.length_cons, List.length_nil, List.length_replicate, row_len] <;> first | rfl | omega)) rfl) (LendL.nil)) rfl (weirkeep_arcs_I (r3))) (fun rr HH hp => ?_)
 obtain ⟨β4, rfl, rfl⟩ := hp
 refine GoO.pure (ps_build (Parts.cons _ _ _ _ _ _ _ _ FdP.of (Part.one _ rfl rfl) rfl rfl (Parts.cons _ _ _ _ _ _ _ _ FdP.of (Part.one _ rfl rfl) rfl rfl (Parts.cons _ _ _ _ _ _ _ _ FdP.of (Part.one _ rfl rfl) rfl rfl (Parts.cons _ _ _ _ _ _ _ _ FdP.of (Part.one _ rfl rfl) rfl rfl (Parts.nil _))))) rfl) ?_
 refine GoO.eff1 (ef_storeAg rfl rfl At.p2 upd_whole Nat.zero_lt_one rfl) ?_
 refine GoO.nil ?_
 refine GoK.code ?_
 obtain rfl := Option.some.inj H
 exact GoC.retL (ds := [.ag 4 (nth [.v (.int .i64 4), .v (.int .i64 0), .v (.int .i64 3), .own β4 3 0 r3.length])]) Try.results16 (ResL.cons (ResD.le (ResD.cellAg rfl At.p2 Nat.zero_lt_one rfl) (by exact DLe.ag ⟨⟨⟨⟨trivial, DLe.refl _⟩, DLe.refl _⟩, DLe.refl _⟩, DLe.refl _⟩)) (ResL.nil)) (Take.cons _ _ _ _ _ Rem.p0 (Take.nil _)) ⟨β4, rfl, rfl⟩

def weirkeep_mosts_F : Option (Bool) :=
 (weirkeep_weir_F).bind fun r1 =>
 (most_Of_F r1).bind fun (r4, r6, r7) =>
 if r7 = 0 then
  if r6 = 5 then
   if ((r4.length : Nat) : Int) = 5 then
    (weirkeep_weir_F).bind fun r13 =>
    (flow_Check_F r13 r4).bind fun r16 =>
    some (decide (r16 = 0))
   else
    some false
  else
   some false
 else
  some false
def weirkeep_mosts_P (out : Bool) (d : D) (H : List HL) : Prop := d = .v (.bool out) ∧ H = []
theorem weirkeep_mosts_I (out : Bool) : IndepP (weirkeep_mosts_P out) := IndepP.of (by rintro _ _ ⟨rfl, rfl⟩; exact ⟨inferInstance, inferInstance⟩)
set_option maxRecDepth 100000 in
set_option maxHeartbeats 4000000 in
theorem weirkeep_mosts_spec {out : Bool} (H : weirkeep_mosts_F = some out) : Does Try.prog 6 [] [] (weirkeep_mosts_P out) := by
 unfold weirkeep_mosts_F at H
 refine Does.intro Try.func6 rfl Try.ntmps6 rfl fun w0 I0 tb0 => ?_
 refine GoC.seq ?_
 refine GoC.region ?_
 refine GoO.pure (ps_assign rfl rfl) ?_
 refine GoO.nil ?_
 refine GoK.code ?_
 refine GoC.seq ?_
 refine GoC.region ?_
 have hb := bind_l H; clear H
 obtain ⟨r1, e3, H⟩ := hb
 refine GoO.effC (ef_call rfl (Take.nil _) (Take.nil _) (weirkeep_weir_spec e3) (LendL.nil) rfl (weirkeep_weir_I (r1))) (fun rr HH hp => ?_)
 obtain ⟨β2, rfl, rfl⟩ := hp
 have hb := bind_l H; clear H
 obtain ⟨⟨r4, r6, r7⟩, e8, H⟩ := hb
 refine GoO.effC (ef_call rfl (Take.nil _) (Take.cons _ _ _ _ _ Rem.p0 (Take.nil _)) (most_Of_spec r1 e8) (LendL.cons (Lend.agA ⟨⟨⟨⟨trivial, Lend.refl _ _⟩, Lend.refl _ _⟩, Lend.refl _ _⟩, Lend.all' At.p0 (by first | rfl | omega | (simp only [subl_length, cpl_length, List.length_set, List.length_append, List.length_cons, List.length_nil, List.length_replicate, row_len] <;> first | rfl | omega)) rfl⟩) (LendL.nil)) rfl (most_Of_I (r4, r6, r7))) (fun rr HH hp => ?_)
 obtain ⟨β5, rfl, rfl⟩ := hp
 refine GoO.pure (ps_move rfl rfl) ?_
 refine GoO.pure (ps_extract rfl rfl rfl) ?_
 refine GoO.pure (ps_extract rfl rfl rfl) ?_
 refine GoO.pure (ps_extract rfl rfl rfl) ?_
 refine GoO.pure (ps_assign rfl rfl) ?_
 refine GoO.pure (ps_assign rfl rfl) ?_
 refine GoO.pure (ps_assign rfl rfl) ?_
 refine GoO.nil ?_
 refine GoK.code ?_
 refine GoC.seq ?_
 refine GoC.region ?_
 refine GoO.pure (ps_move rfl rfl) ?_
 refine GoO.pure (ps_eql rfl rfl rfl) ?_
 refine GoO.pure (ps_move rfl rfl) ?_
 refine GoO.guardD rfl rfl rfl rfl (fun h9 => ?_) (fun h9 => ?_)
 replace H := ite_t h9 H
 refine GoO.pure (ps_move rfl rfl) ?_
 refine GoO.guardT rfl rfl rfl ?_
 refine GoO.pure (ps_eql rfl rfl rfl) ?_
 refine GoO.pure (ps_pickT rfl rfl rfl) ?_
 refine GoO.pure (ps_move rfl rfl) ?_
 refine GoO.guardD rfl rfl rfl rfl (fun h10 => ?_) (fun h10 => ?_)
 replace H := ite_t h10 H
 refine GoO.pure (ps_move rfl rfl) ?_
 refine GoO.guardT rfl rfl rfl ?_
 refine GoO.pure (ps_len rfl (by constructor) rfl) ?_
 refine GoO.lenLe (n := r4.length) (x := .tmp 17) rfl (by constructor) own_lenLe (fun ml11 => ?_)
 refine GoO.guardT rfl rfl rfl ?_
 refine GoO.pure (ps_eql rfl rfl rfl) ?_
 refine GoO.pure (ps_pickT rfl rfl rfl) ?_
 refine GoO.pure (ps_move rfl rfl) ?_
 refine GoO.guardD rfl rfl rfl rfl (fun h12 => ?_) (fun h12 => ?_)
 replace H := ite_t h12 H
 have hb := bind_l H; clear H
 obtain ⟨r13, e15, H⟩ := hb
 refine GoO.effC (ef_call rfl (Take.nil _) (Take.nil _) (weirkeep_weir_spec e15) (LendL.nil) rfl (weirkeep_weir_I (r13))) (fun rr HH hp => ?_)
 obtain ⟨β14, rfl, rfl⟩ := hp
 refine GoO.guardT rfl rfl rfl ?_
 refine GoO.pure (ps_move rfl rfl) ?_
 refine GoO.guardT rfl rfl rfl ?_
 have hb := bind_l H; clear H
 obtain ⟨r16, e17, H⟩ := hb
 refine GoO.effC (ef_call rfl (Take.nil _) (Take.cons _ _ _ _ _ Rem.p0 (Take.cons _ _ _ _ _ Rem.p0 (Take.nil _))) (flow_Check_spec r13 r4 e17) (LendL.cons (Lend.agA ⟨⟨⟨⟨trivial, Lend.refl _ _⟩, Lend.refl _ _⟩, Lend.refl _ _⟩, Lend.all' At.p0 (by first | rfl | omega | (simp only [subl_length, cpl_length, List.length_set, List.length_append, List.length_cons, List.length_nil, List.length_replicate, row_len] <;> first | rfl | omega)) rfl⟩) (LendL.cons (Lend.all' At.p1 (by first | rfl | omega | (simp only [subl_length, cpl_length, List.length_set, List.length_append, List.length_cons, List.length_nil, List.length_replicate, row_len] <;> first | rfl | omega)) rfl) (LendL.nil))) rfl (flow_Check_I (r16))) (fun rr HH hp => ?_)
 obtain ⟨rfl, rfl⟩ := hp
 refine GoO.guardT rfl rfl rfl ?_
 refine GoO.pure (ps_eql rfl rfl rfl) ?_
 refine GoO.pure (ps_pickT rfl rfl rfl) ?_
 refine GoO.pure (ps_assign rfl rfl) ?_
 refine GoO.nil ?_
 refine GoK.code ?_
 obtain rfl := Option.some.inj H
 exact GoC.retL (ds := [.v (.bool (decide (r16 = 0)))]) Try.results6 (ResL.cons (ResD.tmp rfl) (ResL.nil)) (Take.nil _) ⟨rfl, rfl⟩
 replace H := ite_f h12 H
 refine GoO.guardF rfl rfl rfl rfl ?_
 refine GoO.guardF rfl rfl rfl rfl ?_
 refine GoO.guardF rfl rfl rfl rfl ?_
 refine GoO.pure (ps_pickF rfl rfl rfl) ?_
 refine GoO.pure (ps_assign rfl rfl) ?_
 refine GoO.nil ?_
 refine GoK.code ?_
 obtain rfl := Option.some.inj H
 exact GoC.retL (ds := [.v (.bool false)]) Try.results6 (ResL.cons (ResD.tmp rfl) (ResL.nil)) (Take.nil _) ⟨rfl, rfl⟩
 replace H := ite_f h10 H
 refine GoO.guardF rfl rfl rfl rfl ?_
 refine GoO.guardF rfl rfl rfl rfl ?_
 refine GoO.pure (ps_pickF rfl rfl rfl) ?_
 refine GoO.pure (ps_move rfl rfl) ?_
 refine GoO.guardF rfl rfl rfl rfl ?_
 refine GoO.guardF rfl rfl rfl rfl ?_
 refine GoO.guardF rfl rfl rfl rfl ?_
 refine GoO.guardF rfl rfl rfl rfl ?_
 refine GoO.pure (ps_pickF rfl rfl rfl) ?_
 refine GoO.pure (ps_assign rfl rfl) ?_
 refine GoO.nil ?_
 refine GoK.code ?_
 obtain rfl := Option.some.inj H
 exact GoC.retL (ds := [.v (.bool false)]) Try.results6 (ResL.cons (ResD.tmp rfl) (ResL.nil)) (Take.nil _) ⟨rfl, rfl⟩
 replace H := ite_f h9 H
 refine GoO.guardF rfl rfl rfl rfl ?_
 refine GoO.pure (ps_pickF rfl rfl rfl) ?_
 refine GoO.pure (ps_move rfl rfl) ?_
 refine GoO.guardF rfl rfl rfl rfl ?_
 refine GoO.guardF rfl rfl rfl rfl ?_
 refine GoO.guardF rfl rfl rfl rfl ?_
 refine GoO.pure (ps_pickF rfl rfl rfl) ?_
 refine GoO.pure (ps_move rfl rfl) ?_
 refine GoO.guardF rfl rfl rfl rfl ?_
 refine GoO.guardF rfl rfl rfl rfl ?_
 refine GoO.guardF rfl rfl rfl rfl ?_
 refine GoO.guardF rfl rfl rfl rfl ?_
 refine GoO.pure (ps_pickF rfl rfl rfl) ?_
 refine GoO.pure (ps_assign rfl rfl) ?_
 refine GoO.nil ?_
 refine GoK.code ?_
 obtain rfl := Option.some.inj H
 exact GoC.retL (ds := [.v (.bool false)]) Try.results6 (ResL.cons (ResD.tmp rfl) (ResL.nil)) (Take.nil _) ⟨rfl, rfl⟩

def weirkeep_pushes_F : Option (Bool) :=
 (weirkeep_arcs_F ([(⟨0, 1, 7⟩ : T3)] : List T3)).bind fun r2 =>
 (push_New_F (⟨2, 0, 1, r2⟩ : Net)).bind fun (r5, r9) =>
 if r9 = 0 then
  (slices_Equal_int_F r5.flow ([7] : List Int)).bind fun r14 =>
  if r14 = true then
   (slices_Equal_int_F r5.height ([2, 0] : List Int)).bind fun r18 =>
   some r18
  else
   some false
 else
  some false
def weirkeep_pushes_P (out : Bool) (d : D) (H : List HL) : Prop := d = .v (.bool out) ∧ H = []
theorem weirkeep_pushes_I (out : Bool) : IndepP (weirkeep_pushes_P out) := IndepP.of (by rintro _ _ ⟨rfl, rfl⟩; exact ⟨inferInstance, inferInstance⟩)
set_option maxRecDepth 100000 in
set_option maxHeartbeats 4000000 in
theorem weirkeep_pushes_spec {out : Bool} (H : weirkeep_pushes_F = some out) : Does Try.prog 10 [] [] (weirkeep_pushes_P out) := by
 unfold weirkeep_pushes_F at H
 refine Does.intro Try.func10 rfl Try.ntmps10 rfl fun w0 I0 tb0 => ?_
 refine GoC.seq ?_
 refine GoC.region ?_
 refine GoO.pure (ps_assign rfl rfl) ?_
 refine GoO.nil ?_
 refine GoK.code ?_
 refine GoC.seq ?_
 refine GoC.region ?_
 refine GoO.pure (ps_buildA (Parts.cons _ _ _ _ _ _ _ _ ⟨rfl, rfl⟩ (Part.one _ rfl rfl) rfl rfl (Parts.cons _ _ _ _ _ _ _ _ ⟨rfl, rfl⟩ (Part.one _ rfl rfl) rfl rfl (Parts.cons _ _ _ _ _ _ _ _ ⟨rfl, rfl⟩ (Part.one _ rfl rfl) rfl rfl (Parts.nil _)))) rfl) ?_
 refine GoO.effB (ef_buildSlice (row ([(⟨0, 1, 7⟩ : T3)] : List T3)) rfl (Parts.cons _ _ _ _ _ _ _ _ ⟨rfl, rfl⟩ (Part.ag _ _ rfl) rfl rfl (Parts.nil _)) rfl rfl rfl rfl) (fun β1 => ?_)
 have hb := bind_l H; clear H
 obtain ⟨r2, e4, H⟩ := hb
 refine GoO.effC (ef_call rfl (Take.nil _) (Take.cons _ _ _ _ _ Rem.p0 (Take.nil _)) (weirkeep_arcs_spec ([(⟨0, 1, 7⟩ : T3)] : List T3) e4) (LendL.cons (Lend.all' At.p0 (by first | rfl | omega | (simp only [subl_length, cpl_length, List.length_set, List.length_append, List.length_cons, List.length_nil, List.length_replicate, row_len] <;> first | rfl | omega)) rfl) (LendL.nil)) rfl (weirkeep_arcs_I (r2))) (fun rr HH hp => ?_)
 obtain ⟨β3, rfl, rfl⟩ := hp
 refine GoO.pure (ps_build (Parts.cons _ _ _ _ _ _ _ _ FdP.of (Part.one _ rfl rfl) rfl rfl (Parts.cons _ _ _ _ _ _ _ _ FdP.of (Part.one _ rfl rfl) rfl rfl (Parts.cons _ _ _ _ _ _ _ _ FdP.of (Part.one _ rfl rfl) rfl rfl (Parts.cons _ _ _ _ _ _ _ _ FdP.of (Part.one _ rfl rfl) rfl rfl (Parts.nil _))))) rfl) ?_
 have hb := bind_l H; clear H
 obtain ⟨⟨r5, r9⟩, e10, H⟩ := hb
 refine GoO.effC (ef_call rfl (Take.nil _) (Take.cons _ _ _ _ _ Rem.p0 (Take.nil _)) (push_New_spec (⟨2, 0, 1, r2⟩ : Net) e10) (LendL.cons (Lend.agA ⟨⟨⟨⟨trivial, Lend.refl _ _⟩, Lend.refl _ _⟩, Lend.refl _ _⟩, Lend.all' At.p0 (by first | rfl | omega | (simp only [subl_length, cpl_length, List.length_set, List.length_append, List.length_cons, List.length_nil, List.length_replicate, row_len] <;> first | rfl | omega)) rfl⟩) (LendL.nil)) rfl (push_New_I (r5, r9))) (fun rr HH hp => ?_)
 obtain ⟨β6, β7, β8, rfl, rfl⟩ := hp
 refine GoO.pure (ps_move rfl rfl) ?_
 refine GoO.pure (ps_extract rfl rfl rfl) ?_
 refine GoO.pure (ps_extract rfl rfl rfl) ?_
 refine GoO.effB (ef_alloc rfl) (fun β11 => ?_)
 refine GoO.eff1 (ef_storeAg rfl rfl At.p0 upd_whole Nat.zero_lt_one rfl) ?_
 refine GoO.pure (ps_assign rfl rfl) ?_
 refine GoO.nil ?_
 refine GoK.code ?_
 refine GoC.seq ?_
 refine GoC.region ?_
 refine GoO.pure (ps_move rfl rfl) ?_
 refine GoO.pure (ps_eql rfl rfl rfl) ?_
 refine GoO.pure (ps_move rfl rfl) ?_
 refine GoO.guardD rfl rfl rfl rfl (fun h12 => ?_) (fun h12 => ?_)
 replace H := ite_t h12 H
 refine GoO.pure (ps_fieldAddr rfl rfl) ?_
 refine GoO.guardT rfl rfl rfl ?_
 refine GoO.pure (ps_load rfl At.p0 At.p0 Nat.zero_lt_one rfl rfl) ?_
 refine GoO.guardT rfl rfl rfl ?_
 refine GoO.effB (ef_buildSlice (row ([7] : List Int)) rfl (Parts.cons _ _ _ _ _ _ _ _ ⟨rfl, rfl⟩ (Part.one _ rfl rfl) rfl rfl (Parts.nil _)) rfl rfl rfl rfl) (fun β13 => ?_)
 refine GoO.guardT rfl rfl rfl ?_
 have hb := bind_l H; clear H
 obtain ⟨r14, e15, H⟩ := hb
 refine GoO.effC (ef_call rfl (Take.nil _) (Take.cons _ _ _ _ _ Rem.p3 (Take.cons _ _ _ _ _ Rem.p0 (Take.nil _))) (slices_Equal_int_spec r5.flow ([7] : List Int) e15) (LendL.cons (Lend.all' At.p0 (by first | rfl | omega | (simp only [subl_length, cpl_length, List.length_set, List.length_append, List.length_cons, List.length_nil, List.length_replicate, row_len] <;> first | rfl | omega)) rfl) (LendL.cons (Lend.all' At.p1 (by first | rfl | omega | (simp only [subl_length, cpl_length, List.length_set, List.length_append, List.length_cons, List.length_nil, List.length_replicate, row_len] <;> first | rfl | omega)) rfl) (LendL.nil))) rfl (slices_Equal_int_I (r14))) (fun rr HH hp => ?_)
 obtain ⟨rfl, rfl⟩ := hp
 refine GoO.pure (ps_pickT rfl rfl rfl) ?_
 refine GoO.pure (ps_move rfl rfl) ?_
 refine GoO.guard rfl rfl rfl rfl (fun h16 => ?_) (fun h16 => ?_)
 replace H := itb_t h16 H
 refine GoO.pure (ps_fieldAddr rfl rfl) ?_
 refine GoO.guardT rfl rfl rfl ?_
 refine GoO.pure (ps_load rfl At.p1 At.p1 Nat.zero_lt_one rfl rfl) ?_
 refine GoO.guardT rfl rfl rfl ?_
 refine GoO.effB (ef_buildSlice (row ([2, 0] : List Int)) rfl (Parts.cons _ _ _ _ _ _ _ _ ⟨rfl, rfl⟩ (Part.one _ rfl rfl) rfl rfl (Parts.cons _ _ _ _ _ _ _ _ ⟨rfl, rfl⟩ (Part.one _ rfl rfl) rfl rfl (Parts.nil _))) rfl rfl rfl rfl) (fun β17 => ?_)
 refine GoO.guardT rfl rfl rfl ?_
 have hb := bind_l H; clear H
 obtain ⟨r18, e19, H⟩ := hb
 refine GoO.effC (ef_call rfl (Take.nil _) (Take.cons _ _ _ _ _ Rem.p5 (Take.cons _ _ _ _ _ Rem.p0 (Take.nil _))) (slices_Equal_int_spec r5.height ([2, 0] : List Int) e19) (LendL.cons (Lend.all' At.p0 (by first | rfl | omega | (simp only [subl_length, cpl_length, List.length_set, List.length_append, List.length_cons, List.length_nil, List.length_replicate, row_len] <;> first | rfl | omega)) rfl) (LendL.cons (Lend.all' At.p1 (by first | rfl | omega | (simp only [subl_length, cpl_length, List.length_set, List.length_append, List.length_cons, List.length_nil, List.length_replicate, row_len] <;> first | rfl | omega)) rfl) (LendL.nil))) rfl (slices_Equal_int_I (r18))) (fun rr HH hp => ?_)
 obtain ⟨rfl, rfl⟩ := hp
 refine GoO.pure (ps_pickT rfl rfl rfl) ?_
 refine GoO.pure (ps_assign rfl rfl) ?_
 refine GoO.nil ?_
 refine GoK.code ?_
 obtain rfl := Option.some.inj H
 exact GoC.retL (ds := [.v (.bool r18)]) Try.results10 (ResL.cons (ResD.tmp rfl) (ResL.nil)) (Take.nil _) ⟨rfl, rfl⟩
 replace H := itb_f h16 H
 refine GoO.guardF rfl rfl rfl rfl ?_
 refine GoO.guardF rfl rfl rfl rfl ?_
 refine GoO.guardF rfl rfl rfl rfl ?_
 refine GoO.pure (ps_pickF rfl rfl rfl) ?_
 refine GoO.pure (ps_assign rfl rfl) ?_
 refine GoO.nil ?_
 refine GoK.code ?_
 obtain rfl := Option.some.inj H
 exact GoC.retL (ds := [.v (.bool false)]) Try.results10 (ResL.cons (ResD.tmp rfl) (ResL.nil)) (Take.nil _) ⟨rfl, rfl⟩
 replace H := ite_f h12 H
 refine GoO.guardF rfl rfl rfl rfl ?_
 refine GoO.guardF rfl rfl rfl rfl ?_
 refine GoO.guardF rfl rfl rfl rfl ?_
 refine GoO.pure (ps_pickF rfl rfl rfl) ?_
 refine GoO.pure (ps_move rfl rfl) ?_
 refine GoO.guardF rfl rfl rfl rfl ?_
 refine GoO.guardF rfl rfl rfl rfl ?_
 refine GoO.guardF rfl rfl rfl rfl ?_
 refine GoO.guardF rfl rfl rfl rfl ?_
 refine GoO.pure (ps_pickF rfl rfl rfl) ?_
 refine GoO.pure (ps_assign rfl rfl) ?_
 refine GoO.nil ?_
 refine GoK.code ?_
 obtain rfl := Option.some.inj H
 exact GoC.retL (ds := [.v (.bool false)]) Try.results10 (ResL.cons (ResD.tmp rfl) (ResL.nil)) (Take.nil _) ⟨rfl, rfl⟩

def weirkeep_pushed_B1 (n : Net) (steps : (List Int)) : Nat → (Int × Int × Int × (List Arc) × (List Int) × (List Int) × Nat) → Option (Int × Int × Int × (List Arc) × (List Int) × (List Int) × Nat) := fun k32 (x12, x13, x14, l16, l18, l20, n21) =>
 ck (InI (2 * ((n.as.length : Nat) : Int))) <|
 ck (InI ((2 * ((n.as.length : Nat) : Int)) + n.n)) <|
 (weirref_Rest_F (steps.getD k32 (0 : Int)) ((2 * ((n.as.length : Nat) : Int)) + n.n)).bind fun r37 =>
 ((
  if r37 < (2 * ((n.as.length : Nat) : Int)) then
   ck (InI (Int.tdiv r37 2)) <|
   (push_Send_F (⟨(⟨x12, x13, x14, l16⟩ : Net), l18, l20⟩ : Push) (Int.tdiv r37 2) (decide ((Int.tmod r37 2) = 1))).bind fun (r54, r58) =>
   some (r54.net.n, r54.net.s, r54.net.t, r54.net.as, r54.flow, r54.height, r58)
  else
   ck (InI (r37 - (2 * ((n.as.length : Nat) : Int)))) <|
   (push_Lift_F (⟨(⟨x12, x13, x14, l16⟩ : Net), l18, l20⟩ : Push) (r37 - (2 * ((n.as.length : Nat) : Int)))).bind fun (r61, r65) =>
   some (r61.net.n, r61.net.s, r61.net.t, r61.net.as, r61.flow, r61.height, r65)) : Option (Int × Int × Int × (List Arc) × (List Int) × (List Int) × Int)).bind fun (x40, x41, x42, l44, l46, l48, x49) =>
 if x49 = 0 then
  ck (InI (((n21 : Nat) : Int) + 1)) <|
  some (x40, x41, x42, l44, l46, l48, (n21 + 1))
 else
  some (x12, x13, x14, l16, l18, l20, n21)
def weirkeep_pushed_F (n : Net) (steps : (List Int)) : Option (Push × Int × Bool) :=
 (push_New_F n).bind fun (r3, r7) =>
 if r7 ≠ 0 then
  some (r3, 0, false)
 else
  (forN (weirkeep_pushed_B1 n steps) steps.length 0 (r3.net.n, r3.net.s, r3.net.t, r3.net.as, r3.flow, r3.height, 0)).bind fun (x25, x26, x27, l28, l29, l30, n31) =>
  some ((⟨(⟨x25, x26, x27, l28⟩ : Net), l29, l30⟩ : Push), ((n31 : Nat) : Int), true)
def weirkeep_pushed_P (out : Push × Int × Bool) (d : D) (H : List HL) : Prop := ∃ β1 β2 β3 : BK, d = .tp 3 (nth [.ag 6 (nth [.v (.int .i64 out.1.net.n), .v (.int .i64 out.1.net.s), .v (.int .i64 out.1.net.t), .own β1 3 0 out.1.net.as.length, .own β2 1 0 out.1.flow.length, .own β3 1 0 out.1.height.length]), .v (.int .i64 out.2.1), .v (.bool out.2.2)]) ∧ H = [.one β1 46 3 (row out.1.net.as), .one β2 3 1 (row out.1.flow), .one β3 3 1 (row out.1.height)]
theorem weirkeep_pushed_I (out : Push × Int × Bool) : IndepP (weirkeep_pushed_P out) := IndepP.of (by rintro _ _ ⟨β1, β2, β3, rfl, rfl⟩; exact ⟨inferInstance, inferInstance⟩)
set_option maxRecDepth 100000 in
set_option maxHeartbeats 4000000 in
theorem weirkeep_pushed_spec (n : Net) (steps : (List Int)) {out : Push × Int × Bool} (H : weirkeep_pushed_F n steps = some out) : Does Try.prog 11 [.ag 4 (nth [.v (.int .i64 n.n), .v (.int .i64 n.s), .v (.int .i64 n.t), slD n.as]), slD steps] [] (weirkeep_pushed_P out) := by
 unfold weirkeep_pushed_F at H
 refine Does.intro Try.func11 rfl Try.ntmps11 rfl fun w0 I0 tb0 => ?_
 refine GoC.seq ?_
 refine GoC.region ?_
 refine GoO.effB (ef_boxAg rfl rfl) (fun β1 => ?_)
 refine GoO.effB (ef_alloc rfl) (fun β2 => ?_)
 refine GoO.pure (ps_assign rfl rfl) ?_
 refine GoO.pure (ps_assign rfl rfl) ?_
 refine GoO.nil ?_
 refine GoK.code ?_
 refine GoC.seq ?_
 refine GoC.region ?_
 refine GoO.pure (ps_loadAg rfl At.p1 At.p1 Nat.zero_lt_one rfl rfl) ?_
 have hb := bind_l H; clear H
 obtain ⟨⟨r3, r7⟩, e8, H⟩ := hb
 refine GoO.effC (ef_call rfl (Take.nil _) (Take.nil _) (push_New_spec n e8) (LendL.cons (Lend.agA ⟨⟨⟨⟨trivial, Lend.refl _ _⟩, Lend.refl _ _⟩, Lend.refl _ _⟩, Lend.refl _ _⟩) (LendL.nil)) rfl (push_New_I (r3, r7))) (fun rr HH hp => ?_)
 obtain ⟨β4, β5, β6, rfl, rfl⟩ := hp
 refine GoO.pure (ps_move rfl rfl) ?_
 refine GoO.pure (ps_extract rfl rfl rfl) ?_
 refine GoO.pure (ps_extract rfl rfl rfl) ?_
 refine GoO.effB (ef_alloc rfl) (fun β9 => ?_)
 refine GoO.eff1 (ef_storeAg rfl rfl At.p0 upd_whole Nat.zero_lt_one rfl) ?_
 refine GoO.pure (ps_assign rfl rfl) ?_
 refine GoO.nil ?_
 refine GoK.code ?_
 refine GoC.seq ?_
 refine GoC.seq ?_
 refine GoC.region ?_
 refine GoO.pure (ps_move rfl rfl) ?_
 refine GoO.pure (ps_neq rfl rfl rfl) ?_
 refine GoO.nil ?_
 refine GoK.code ?_
 refine GoC.condD rfl (fun h10 => ?_) (fun h10 => ?_)
 replace H := ite_t h10 H
 refine GoC.seq ?_
 refine GoC.region ?_
 refine GoO.pure (ps_loadAg rfl At.p0 At.p0 Nat.zero_lt_one rfl rfl) ?_
 refine GoO.eff1 (ef_storeAg rfl rfl At.p4 upd_whole Nat.zero_lt_one rfl) ?_
 refine GoO.pure (ps_assign rfl rfl) ?_
 refine GoO.pure (ps_assign rfl rfl) ?_
 refine GoO.nil ?_
 refine GoK.code ?_
 obtain rfl := Option.some.inj H
 exact GoC.retL (ds := [.ag 6 (nth [.v (.int .i64 r3.net.n), .v (.int .i64 r3.net.s), .v (.int .i64 r3.net.t), .own β4 3 0 r3.net.as.length, .own β5 1 0 r3.flow.length, .own β6 1 0 r3.height.length]), .v (.int .i64 0), .v (.bool false)]) Try.results11 (ResL.cons (ResD.le (ResD.cellAg rfl At.p4 Nat.zero_lt_one rfl) (by exact DLe.ag ⟨⟨⟨⟨⟨⟨trivial, DLe.refl _⟩, DLe.refl _⟩, DLe.refl _⟩, DLe.refl _⟩, DLe.refl _⟩, DLe.refl _⟩)) (ResL.cons (ResD.tmp rfl) (ResL.cons (ResD.tmp rfl) (ResL.nil)))) (Take.cons _ _ _ _ _ Rem.p1 (Take.cons _ _ _ _ _ Rem.p1 (Take.cons _ _ _ _ _ Rem.p1 (Take.nil _)))) ⟨β4, β5, β6, rfl, rfl⟩
 replace H := ite_f h10 H
 refine GoC.skip ?_
 refine GoK.code ?_
 refine GoC.seq ?_
 refine GoC.region ?_
 refine GoO.pure (ps_assign rfl rfl) ?_
 refine GoO.nil ?_
 refine GoK.code ?_
 refine GoC.seq ?_
 refine GoC.seq ?_
 refine GoC.region ?_
 refine GoO.pure (ps_move rfl rfl) ?_
 refine GoO.pure (ps_len rfl (by constructor) rfl) ?_
 refine GoO.lenLe (n := steps.length) (x := .tmp 23) rfl (by constructor) sl_lenLe (fun ml11 => ?_)
 refine GoO.pure (ps_move rfl rfl) ?_
 refine GoO.nil ?_
 refine GoK.code ?_
 have hb := bind_l H; clear H
 obtain ⟨⟨x25, x26, x27, l28, l29, l30, n31⟩, hl69, HK22⟩ := hb
 refine GoC.blockJ [(4, .ptr β2 6 0 0)] [.one β2 36 6 (st1 (nth [.v (.int .i64 0), .v (.int .i64 0), .v (.int .i64 0), .v (.slice none 0 0), .v (.slice none 0 0), .v (.slice none 0 0)])), .one β1 24 4 (st1 (nth [.v (.int .i64 n.n), .v (.int .i64 n.s), .v (.int .i64 n.t), slD n.as]))] (fun v h => ∃ (β15 : BK) (β17 : BK) (β19 : BK), v = [(7, .ptr β9 6 0 0), (9, .v (.int .i64 ((n31 : Nat) : Int)))] ∧ h = [.one β15 46 3 (row l28), .one β17 3 1 (row l29), .one β19 3 1 (row l30), .one β9 36 6 (st1 (nth [.v (.int .i64 x25), .v (.int .i64 x26), .v (.int .i64 x27), .own β15 3 0 l28.length, .own β17 1 0 l29.length, .own β19 1 0 l30.length]))]) ?_ ?_
 refine GoC.loopJ [(2, _), (4, _), (23, _), (24, _)] [.one β2 36 6 (st1 (nth [.v (.int .i64 0), .v (.int .i64 0), .v (.int .i64 0), .v (.slice none 0 0), .v (.slice none 0 0), .v (.slice none 0 0)])), .one β1 24 4 (st1 (nth [.v (.int .i64 n.n), .v (.int .i64 n.s), .v (.int .i64 n.t), slD n.as]))] (fun mQ v h => ∃ (k32 : Nat) (x12 : Int) (x13 : Int) (x14 : Int) (l16 : (List Arc)) (l18 : (List Int)) (l20 : (List Int)) (n21 : Nat) (β15 : BK) (β17 : BK) (β19 : BK), (k32 + mQ = steps.length ∧ forN (weirkeep_pushed_B1 n steps) mQ k32 (x12, x13, x14, l16, l18, l20, n21) = some (x25, x26, x27, l28, l29, l30, n31)) ∧ v = [(25, .v (.int .i64 ((k32 : Nat) : Int))), (7, .ptr β9 6 0 0), (9, .v (.int .i64 ((n21 : Nat) : Int)))] ∧ h = [.one β15 46 3 (row l16), .one β17 3 1 (row l18), .one β19 3 1 (row l20), .one β9 36 6 (st1 (nth [.v (.int .i64 x12), .v (.int .i64 x13), .v (.int .i64 x14), .own β15 3 0 l16.length, .own β17 1 0 l18.length, .own β19 1 0 l20.length]))]) steps.length ⟨_, _, _, _, _, _, _, _, β4, β5, β6, ⟨by omega, hl69⟩, rfl, rfl⟩ (EnvD.eq rfl (EnvD.eq rfl (EnvD.eq rfl (EnvD.eq rfl (EnvD.eq rfl (EnvD.eq rfl (EnvD.eq rfl (EnvD.nil)))))))) (TkD.cons _ _ _ _ _ Rem.p1 (HLe.refl _) (TkD.cons _ _ _ _ _ Rem.p1 (HLe.refl _) (TkD.cons _ _ _ _ _ Rem.p1 (HLe.refl _) (TkD.cons _ _ _ _ _ Rem.p0 (HLe.st ⟨⟨⟨⟨⟨⟨trivial, DLe.refl _⟩, DLe.refl _⟩, DLe.refl _⟩, DLe.len (by first | rfl | omega | (simp only [row_len, gridC_len, rowO_len] <;> first | rfl | omega))⟩, DLe.len (by first | rfl | omega | (simp only [row_len, gridC_len, rowO_len] <;> first | rfl | omega))⟩, DLe.len (by first | rfl | omega | (simp only [row_len, gridC_len, rowO_len] <;> first | rfl | omega))⟩) (TkD.cons _ _ _ _ _ Rem.p0 (HLe.st ⟨⟨⟨⟨⟨⟨trivial, DLe.refl _⟩, DLe.refl _⟩, DLe.refl _⟩, DLe.refl _⟩, DLe.refl _⟩, DLe.refl _⟩) (TkD.cons _ _ _ _ _ Rem.p0 (HLe.st ⟨⟨⟨⟨trivial, DLe.refl _⟩, DLe.refl _⟩, DLe.refl _⟩, DLe.refl _⟩) (TkD.nil _))))))) ?_
 rintro m33 v h ⟨k32, x12, x13, x14, l16, l18, l20, n21, β15, β17, β19, ⟨hkk32, hF23⟩, rfl, rfl⟩
 refine GoC.seq ?_
 refine GoC.region ?_
 refine GoO.pure (ps_lss rfl rfl rfl) ?_
 refine GoO.nil ?_
 refine GoK.code ?_
 refine GoC.seq ?_
 refine GoC.condD rfl (fun (hk32 : (k32 : Int) < ((steps.length : Nat) : Int)) => ?_) (fun (hk32 : ¬ (k32 : Int) < ((steps.length : Nat) : Int)) => ?_)
 obtain ⟨m33', rfl⟩ : ∃ x, m33 = x + 1 := ⟨m33 - 1, by omega⟩
 have hb := bind_l hF23; clear hF23
 obtain ⟨qrm33, H, hF23⟩ := hb
 have hnk32 : k32 < steps.length := by omega
 have hIk32 : InI ((k32 : Int) + 1) := inI_len hk32 ml11
 refine GoC.skip ?_
 refine GoK.code ?_
 refine GoC.seq ?_
 refine GoC.block ?_
 refine GoC.seq ?_
 refine GoC.region ?_
 refine GoO.pure (ps_indexAddrRN rfl rfl hnk32 rfl) ?_
 refine GoO.pure (ps_loadR rfl hnk32 rfl rfl) ?_
 refine GoO.pure (ps_assign rfl rfl) ?_
 refine GoO.nil ?_
 refine GoK.code ?_
 refine GoC.seq ?_
 refine GoC.region ?_
 refine GoO.pure (ps_move rfl rfl) ?_
 refine GoO.pure (ps_fieldAddr rfl rfl) ?_
 refine GoO.pure (ps_load rfl At.p5 At.p5 Nat.zero_lt_one rfl rfl) ?_
 refine GoO.pure (ps_len rfl (by constructor) rfl) ?_
 refine GoO.lenLe (n := n.as.length) (x := .tmp 31) rfl (by constructor) sl_lenLe (fun ml34 => ?_)
 have c35 := ck_l H; replace H := ck_r H
 refine GoO.pure (ps_mul rfl rfl rfl c35) ?_
 refine GoO.pure (ps_fieldAddr rfl rfl) ?_
 refine GoO.pure (ps_load rfl At.p5 At.p5 Nat.zero_lt_one rfl rfl) ?_
 have c36 := ck_l H; replace H := ck_r H
 refine GoO.pure (ps_add rfl rfl rfl c36) ?_
 have hb := bind_l H; clear H
 obtain ⟨r37, e38, H⟩ := hb
 refine GoO.effC (ef_call rfl (Take.nil _) (Take.nil _) (weirref_Rest_spec (steps.getD k32 (0 : Int)) ((2 * ((n.as.length : Nat) : Int)) + n.n) e38) (LendL.cons (Lend.refl _ _) (LendL.cons (Lend.refl _ _) (LendL.nil))) rfl (weirref_Rest_I (r37))) (fun rr HH hp => ?_)
 obtain ⟨rfl, rfl⟩ := hp
 refine GoO.pure (ps_assign rfl rfl) ?_
 refine GoO.nil ?_
 refine GoK.code ?_
 refine GoC.seq ?_
 refine GoC.region ?_
 refine GoO.pure (ps_build (Parts.nil _) rfl) ?_
 refine GoO.effB (ef_alloc rfl) (fun β39 => ?_)
 refine GoO.eff1 (ef_storeAg rfl rfl At.p0 upd_whole Nat.zero_lt_one rfl) ?_
 refine GoO.pure (ps_assign rfl rfl) ?_
 refine GoO.nil ?_
 refine GoK.code ?_
 have hb := bind_l H; clear H
 obtain ⟨⟨x40, x41, x42, l44, l46, l48, x49⟩, H, HK50⟩ := hb
 refine GoC.seqJ [(2, .ptr β1 4 0 0), (4, .ptr β2 6 0 0), (7, .ptr β9 6 0 0), (9, .v (.int .i64 ((n21 : Nat) : Int))), (23, slD steps), (24, .v (.int .i64 ((steps.length : Nat) : Int))), (25, .v (.int .i64 ((k32 : Nat) : Int)))] [.one β15 46 3 (row l16), .one β17 3 1 (row l18), .one β19 3 1 (row l20), .one β9 36 6 (st1 (nth [.v (.int .i64 x12), .v (.int .i64 x13), .v (.int .i64 x14), .own β15 3 0 l16.length, .own β17 1 0 l18.length, .own β19 1 0 l20.length])), .one β2 36 6 (st1 (nth [.v (.int .i64 0), .v (.int .i64 0), .v (.int .i64 0), .v (.slice none 0 0), .v (.slice none 0 0), .v (.slice none 0 0)])), .one β1 24 4 (st1 (nth [.v (.int .i64 n.n), .v (.int .i64 n.s), .v (.int .i64 n.t), slD n.as]))] (fun v h => ∃ (β43 : BK) (β45 : BK) (β47 : BK), v = [(13, .ptr β39 6 0 0), (14, .v (.int .i64 x49))] ∧ h = [.one β43 46 3 (row l44), .one β45 3 1 (row l46), .one β47 3 1 (row l48), .one β39 36 6 (st1 (nth [.v (.int .i64 x40), .v (.int .i64 x41), .v (.int .i64 x42), .own β43 3 0 l44.length, .own β45 1 0 l46.length, .own β47 1 0 l48.length]))]) ?_ ?_
 refine GoC.seq ?_
 refine GoC.region ?_
 refine GoO.pure (ps_move rfl rfl) ?_
 refine GoO.pure (ps_fieldAddr rfl rfl) ?_
 refine GoO.pure (ps_load rfl At.p6 At.p6 Nat.zero_lt_one rfl rfl) ?_
 refine GoO.pure (ps_len rfl (by constructor) rfl) ?_
 refine GoO.pure (ps_mul rfl rfl rfl c35) ?_
 refine GoO.pure (ps_lss rfl rfl rfl) ?_
 refine GoO.nil ?_
 refine GoK.code ?_
 refine GoC.condD rfl (fun h52 => ?_) (fun h52 => ?_)
 replace H := ite_t h52 H
 refine GoC.region ?_
 refine GoO.pure (ps_loadAg rfl At.p4 At.p4 Nat.zero_lt_one rfl rfl) ?_
 refine GoO.pure (ps_move rfl rfl) ?_
 have c53 := ck_l H; replace H := ck_r H
 refine GoO.pure (ps_quo rfl rfl rfl (by decide) c53) ?_
 refine GoO.pure (ps_move rfl rfl) ?_
 refine GoO.pure (ps_rem rfl rfl rfl (by decide)) ?_
 refine GoO.pure (ps_eql rfl rfl rfl) ?_
 have hb := bind_l H; clear H
 obtain ⟨⟨r54, r58⟩, e59, H⟩ := hb
 refine GoO.effC (ef_call rfl (Take.nil _) (Take.cons _ _ _ _ _ Rem.p1 (Take.cons _ _ _ _ _ Rem.p1 (Take.cons _ _ _ _ _ Rem.p1 (Take.nil _)))) (push_Send_spec (⟨(⟨x12, x13, x14, l16⟩ : Net), l18, l20⟩ : Push) (Int.tdiv r37 2) (decide ((Int.tmod r37 2) = 1)) e59) (LendL.cons (Lend.agA ⟨⟨⟨⟨⟨⟨trivial, Lend.refl _ _⟩, Lend.refl _ _⟩, Lend.refl _ _⟩, Lend.all' At.p0 (by first | rfl | omega | (simp only [subl_length, cpl_length, List.length_set, List.length_append, List.length_cons, List.length_nil, List.length_replicate, row_len] <;> first | rfl | omega)) rfl⟩, Lend.all' At.p1 (by first | rfl | omega | (simp only [subl_length, cpl_length, List.length_set, List.length_append, List.length_cons, List.length_nil, List.length_replicate, row_len] <;> first | rfl | omega)) rfl⟩, Lend.all' At.p2 (by first | rfl | omega | (simp only [subl_length, cpl_length, List.length_set, List.length_append, List.length_cons, List.length_nil, List.length_replicate, row_len] <;> first | rfl | omega)) rfl⟩) (LendL.cons (Lend.refl _ _) (LendL.cons (Lend.refl _ _) (LendL.nil)))) rfl (push_Send_I (r54, r58))) (fun rr HH hp => ?_)
 obtain ⟨β55, β56, β57, rfl, rfl⟩ := hp
 refine GoO.pure (ps_move rfl rfl) ?_
 refine GoO.pure (ps_extract rfl rfl rfl) ?_
 refine GoO.pure (ps_extract rfl rfl rfl) ?_
 refine GoO.eff1 (ef_storeAg rfl rfl At.p3 upd_whole Nat.zero_lt_one rfl) ?_
 refine GoO.pure (ps_assign rfl rfl) ?_
 refine GoO.nil ?_
 cases H
 exact GoK.meet ⟨β55, β56, β57, rfl, rfl⟩ (EnvD.eq rfl (EnvD.eq rfl (EnvD.eq rfl (EnvD.eq rfl (EnvD.eq rfl (EnvD.eq rfl (EnvD.eq rfl (EnvD.eq rfl (EnvD.eq rfl (EnvD.nil)))))))))) (TkD.cons _ _ _ _ _ Rem.p0 (HLe.refl _) (TkD.cons _ _ _ _ _ Rem.p0 (HLe.refl _) (TkD.cons _ _ _ _ _ Rem.p0 (HLe.refl _) (TkD.cons _ _ _ _ _ Rem.p0 (HLe.st ⟨⟨⟨⟨⟨⟨trivial, DLe.refl _⟩, DLe.refl _⟩, DLe.refl _⟩, DLe.len (by first | rfl | omega | (simp only [row_len, gridC_len, rowO_len] <;> first | rfl | omega))⟩, DLe.len (by first | rfl | omega | (simp only [row_len, gridC_len, rowO_len] <;> first | rfl | omega))⟩, DLe.len (by first | rfl | omega | (simp only [row_len, gridC_len, rowO_len] <;> first | rfl | omega))⟩) (TkD.cons _ _ _ _ _ Rem.p0 (HLe.refl _) (TkD.cons _ _ _ _ _ Rem.p0 (HLe.refl _) (TkD.cons _ _ _ _ _ Rem.p0 (HLe.refl _) (TkD.cons _ _ _ _ _ Rem.p0 (HLe.st ⟨⟨⟨⟨⟨⟨trivial, DLe.refl _⟩, DLe.refl _⟩, DLe.refl _⟩, DLe.refl _⟩, DLe.refl _⟩, DLe.refl _⟩) (TkD.cons _ _ _ _ _ Rem.p0 (HLe.st ⟨⟨⟨⟨⟨⟨trivial, DLe.refl _⟩, DLe.refl _⟩, DLe.refl _⟩, DLe.refl _⟩, DLe.refl _⟩, DLe.refl _⟩) (TkD.cons _ _ _ _ _ Rem.p0 (HLe.st ⟨⟨⟨⟨trivial, DLe.refl _⟩, DLe.refl _⟩, DLe.refl _⟩, DLe.refl _⟩) (TkD.nil _)))))))))))
 replace H := ite_f h52 H
 refine GoC.region ?_
 refine GoO.pure (ps_loadAg rfl At.p4 At.p4 Nat.zero_lt_one rfl rfl) ?_
 refine GoO.pure (ps_move rfl rfl) ?_
 refine GoO.pure (ps_fieldAddr rfl rfl) ?_
 refine GoO.pure (ps_load rfl At.p6 At.p6 Nat.zero_lt_one rfl rfl) ?_
 refine GoO.pure (ps_len rfl (by constructor) rfl) ?_
 refine GoO.pure (ps_mul rfl rfl rfl c35) ?_
 have c60 := ck_l H; replace H := ck_r H
 refine GoO.pure (ps_sub rfl rfl rfl c60) ?_
 have hb := bind_l H; clear H
 obtain ⟨⟨r61, r65⟩, e66, H⟩ := hb
 refine GoO.effC (ef_call rfl (Take.nil _) (Take.cons _ _ _ _ _ Rem.p1 (Take.cons _ _ _ _ _ Rem.p1 (Take.cons _ _ _ _ _ Rem.p1 (Take.nil _)))) (push_Lift_spec (⟨(⟨x12, x13, x14, l16⟩ : Net), l18, l20⟩ : Push) (r37 - (2 * ((n.as.length : Nat) : Int))) e66) (LendL.cons (Lend.agA ⟨⟨⟨⟨⟨⟨trivial, Lend.refl _ _⟩, Lend.refl _ _⟩, Lend.refl _ _⟩, Lend.all' At.p0 (by first | rfl | omega | (simp only [subl_length, cpl_length, List.length_set, List.length_append, List.length_cons, List.length_nil, List.length_replicate, row_len] <;> first | rfl | omega)) rfl⟩, Lend.all' At.p1 (by first | rfl | omega | (simp only [subl_length, cpl_length, List.length_set, List.length_append, List.length_cons, List.length_nil, List.length_replicate, row_len] <;> first | rfl | omega)) rfl⟩, Lend.all' At.p2 (by first | rfl | omega | (simp only [subl_length, cpl_length, List.length_set, List.length_append, List.length_cons, List.length_nil, List.length_replicate, row_len] <;> first | rfl | omega)) rfl⟩) (LendL.cons (Lend.refl _ _) (LendL.nil))) rfl (push_Lift_I (r61, r65))) (fun rr HH hp => ?_)
 obtain ⟨β62, β63, β64, rfl, rfl⟩ := hp
 refine GoO.pure (ps_move rfl rfl) ?_
 refine GoO.pure (ps_extract rfl rfl rfl) ?_
 refine GoO.pure (ps_extract rfl rfl rfl) ?_
 refine GoO.eff1 (ef_storeAg rfl rfl At.p3 upd_whole Nat.zero_lt_one rfl) ?_
 refine GoO.pure (ps_assign rfl rfl) ?_
 refine GoO.nil ?_
 cases H
 exact GoK.meet ⟨β62, β63, β64, rfl, rfl⟩ (EnvD.eq rfl (EnvD.eq rfl (EnvD.eq rfl (EnvD.eq rfl (EnvD.eq rfl (EnvD.eq rfl (EnvD.eq rfl (EnvD.eq rfl (EnvD.eq rfl (EnvD.nil)))))))))) (TkD.cons _ _ _ _ _ Rem.p0 (HLe.refl _) (TkD.cons _ _ _ _ _ Rem.p0 (HLe.refl _) (TkD.cons _ _ _ _ _ Rem.p0 (HLe.refl _) (TkD.cons _ _ _ _ _ Rem.p0 (HLe.st ⟨⟨⟨⟨⟨⟨trivial, DLe.refl _⟩, DLe.refl _⟩, DLe.refl _⟩, DLe.len (by first | rfl | omega | (simp only [row_len, gridC_len, rowO_len] <;> first | rfl | omega))⟩, DLe.len (by first | rfl | omega | (simp only [row_len, gridC_len, rowO_len] <;> first | rfl | omega))⟩, DLe.len (by first | rfl | omega | (simp only [row_len, gridC_len, rowO_len] <;> first | rfl | omega))⟩) (TkD.cons _ _ _ _ _ Rem.p0 (HLe.refl _) (TkD.cons _ _ _ _ _ Rem.p0 (HLe.refl _) (TkD.cons _ _ _ _ _ Rem.p0 (HLe.refl _) (TkD.cons _ _ _ _ _ Rem.p0 (HLe.st ⟨⟨⟨⟨⟨⟨trivial, DLe.refl _⟩, DLe.refl _⟩, DLe.refl _⟩, DLe.refl _⟩, DLe.refl _⟩, DLe.refl _⟩) (TkD.cons _ _ _ _ _ Rem.p0 (HLe.st ⟨⟨⟨⟨⟨⟨trivial, DLe.refl _⟩, DLe.refl _⟩, DLe.refl _⟩, DLe.refl _⟩, DLe.refl _⟩, DLe.refl _⟩) (TkD.cons _ _ _ _ _ Rem.p0 (HLe.st ⟨⟨⟨⟨trivial, DLe.refl _⟩, DLe.refl _⟩, DLe.refl _⟩, DLe.refl _⟩) (TkD.nil _)))))))))))
 rintro v h ⟨β43, β45, β47, rfl, rfl⟩
 have H := HK50; clear HK50
 refine GoC.seq ?_
 refine GoC.region ?_
 refine GoO.pure (ps_move rfl rfl) ?_
 refine GoO.pure (ps_eql rfl rfl rfl) ?_
 refine GoO.nil ?_
 refine GoK.code ?_
 refine GoC.condD rfl (fun h67 => ?_) (fun h67 => ?_)
 replace H := ite_t h67 H
 refine GoC.seq ?_
 refine GoC.region ?_
 refine GoO.pure (ps_loadAg rfl At.p3 At.p3 Nat.zero_lt_one rfl rfl) ?_
 refine GoO.eff1 (ef_storeAg rfl rfl At.p7 upd_whole Nat.zero_lt_one rfl) ?_
 refine GoO.nil ?_
 refine GoK.code ?_
 refine GoC.region ?_
 refine GoO.pure (ps_move rfl rfl) ?_
 have c68 := ck_l H; replace H := ck_r H
 refine GoO.pure (ps_add rfl rfl rfl c68) ?_
 refine GoO.pure (ps_assign rfl rfl) ?_
 refine GoO.nil ?_
 refine GoK.blk ?_
 refine GoK.code ?_
 refine GoC.region ?_
 refine GoO.pure (ps_add rfl rfl rfl hIk32) ?_
 refine GoO.pure (ps_move rfl rfl) ?_
 refine GoO.nil ?_
 obtain rfl := Option.some.inj H
 exact GoK.againJ m33' (by omega) ⟨_, _, _, _, _, _, _, _, β43, β45, β47, ⟨by omega, hF23⟩, rfl, rfl⟩ (EnvD.eq rfl (EnvD.eq rfl (EnvD.eq rfl (EnvD.eq rfl (EnvD.eq rfl (EnvD.eq rfl (EnvD.eq rfl (EnvD.nil)))))))) (TkD.cons _ _ _ _ _ Rem.p0 (HLe.refl _) (TkD.cons _ _ _ _ _ Rem.p0 (HLe.refl _) (TkD.cons _ _ _ _ _ Rem.p0 (HLe.refl _) (TkD.cons _ _ _ _ _ Rem.p4 (HLe.st ⟨⟨⟨⟨⟨⟨trivial, DLe.refl _⟩, DLe.refl _⟩, DLe.refl _⟩, DLe.len (by first | rfl | omega | (simp only [row_len, gridC_len, rowO_len] <;> first | rfl | omega))⟩, DLe.len (by first | rfl | omega | (simp only [row_len, gridC_len, rowO_len] <;> first | rfl | omega))⟩, DLe.len (by first | rfl | omega | (simp only [row_len, gridC_len, rowO_len] <;> first | rfl | omega))⟩) (TkD.cons _ _ _ _ _ Rem.p4 (HLe.st ⟨⟨⟨⟨⟨⟨trivial, DLe.refl _⟩, DLe.refl _⟩, DLe.refl _⟩, DLe.refl _⟩, DLe.refl _⟩, DLe.refl _⟩) (TkD.cons _ _ _ _ _ Rem.p4 (HLe.st ⟨⟨⟨⟨trivial, DLe.refl _⟩, DLe.refl _⟩, DLe.refl _⟩, DLe.refl _⟩) (TkD.nil _)))))))
 replace H := ite_f h67 H
 refine GoC.skip ?_
 refine GoK.blk ?_
 refine GoK.code ?_
 refine GoC.region ?_
 refine GoO.pure (ps_add rfl rfl rfl hIk32) ?_
 refine GoO.pure (ps_move rfl rfl) ?_
 refine GoO.nil ?_
 obtain rfl := Option.some.inj H
 exact GoK.againJ m33' (by omega) ⟨_, _, _, _, _, _, _, _, β15, β17, β19, ⟨by omega, hF23⟩, rfl, rfl⟩ (EnvD.eq rfl (EnvD.eq rfl (EnvD.eq rfl (EnvD.eq rfl (EnvD.eq rfl (EnvD.eq rfl (EnvD.eq rfl (EnvD.nil)))))))) (TkD.cons _ _ _ _ _ Rem.p4 (HLe.refl _) (TkD.cons _ _ _ _ _ Rem.p4 (HLe.refl _) (TkD.cons _ _ _ _ _ Rem.p4 (HLe.refl _) (TkD.cons _ _ _ _ _ Rem.p4 (HLe.st ⟨⟨⟨⟨⟨⟨trivial, DLe.refl _⟩, DLe.refl _⟩, DLe.refl _⟩, DLe.refl _⟩, DLe.refl _⟩, DLe.refl _⟩) (TkD.cons _ _ _ _ _ Rem.p4 (HLe.st ⟨⟨⟨⟨⟨⟨trivial, DLe.refl _⟩, DLe.refl _⟩, DLe.refl _⟩, DLe.refl _⟩, DLe.refl _⟩, DLe.refl _⟩) (TkD.cons _ _ _ _ _ Rem.p4 (HLe.st ⟨⟨⟨⟨trivial, DLe.refl _⟩, DLe.refl _⟩, DLe.refl _⟩, DLe.refl _⟩) (TkD.nil _)))))))
 obtain rfl : m33 = 0 := by omega
 refine GoC.exit rfl ?_
 cases hF23
 exact GoK.meet ⟨β15, β17, β19, rfl, rfl⟩ (EnvD.eq rfl (EnvD.eq rfl (EnvD.eq rfl (EnvD.nil)))) (TkD.cons _ _ _ _ _ Rem.p0 (HLe.refl _) (TkD.cons _ _ _ _ _ Rem.p0 (HLe.refl _) (TkD.cons _ _ _ _ _ Rem.p0 (HLe.refl _) (TkD.cons _ _ _ _ _ Rem.p0 (HLe.st ⟨⟨⟨⟨⟨⟨trivial, DLe.refl _⟩, DLe.refl _⟩, DLe.refl _⟩, DLe.len (by first | rfl | omega | (simp only [row_len, gridC_len, rowO_len] <;> first | rfl | omega))⟩, DLe.len (by first | rfl | omega | (simp only [row_len, gridC_len, rowO_len] <;> first | rfl | omega))⟩, DLe.len (by first | rfl | omega | (simp only [row_len, gridC_len, rowO_len] <;> first | rfl | omega))⟩) (TkD.cons _ _ _ _ _ Rem.p0 (HLe.st ⟨⟨⟨⟨⟨⟨trivial, DLe.refl _⟩, DLe.refl _⟩, DLe.refl _⟩, DLe.refl _⟩, DLe.refl _⟩, DLe.refl _⟩) (TkD.cons _ _ _ _ _ Rem.p0 (HLe.st ⟨⟨⟨⟨trivial, DLe.refl _⟩, DLe.refl _⟩, DLe.refl _⟩, DLe.refl _⟩) (TkD.nil _)))))))
 rintro v h ⟨β15, β17, β19, rfl, rfl⟩
 have H := HK22; clear HK22
 refine GoK.code ?_
 refine GoC.seq ?_
 refine GoC.region ?_
 refine GoO.pure (ps_loadAg rfl At.p3 At.p3 Nat.zero_lt_one rfl rfl) ?_
 refine GoO.pure (ps_move rfl rfl) ?_
 refine GoO.eff1 (ef_storeAg rfl rfl At.p4 upd_whole Nat.zero_lt_one rfl) ?_
 refine GoO.pure (ps_assign rfl rfl) ?_
 refine GoO.pure (ps_assign rfl rfl) ?_
 refine GoO.nil ?_
 refine GoK.code ?_
 obtain rfl := Option.some.inj H
 exact GoC.retL (ds := [.ag 6 (nth [.v (.int .i64 x25), .v (.int .i64 x26), .v (.int .i64 x27), .own β15 3 0 l28.length, .own β17 1 0 l29.length, .own β19 1 0 l30.length]), .v (.int .i64 ((n31 : Nat) : Int)), .v (.bool true)]) Try.results11 (ResL.cons (ResD.le (ResD.cellAg rfl At.p4 Nat.zero_lt_one rfl) (by exact DLe.ag ⟨⟨⟨⟨⟨⟨trivial, DLe.refl _⟩, DLe.refl _⟩, DLe.refl _⟩, DLe.refl _⟩, DLe.refl _⟩, DLe.refl _⟩)) (ResL.cons (ResD.tmp rfl) (ResL.cons (ResD.tmp rfl) (ResL.nil)))) (Take.cons _ _ _ _ _ Rem.p0 (Take.cons _ _ _ _ _ Rem.p0 (Take.cons _ _ _ _ _ Rem.p0 (Take.nil _)))) ⟨β15, β17, β19, rfl, rfl⟩

end Go.Proofs.Ytgkcmjmofcekmaa
