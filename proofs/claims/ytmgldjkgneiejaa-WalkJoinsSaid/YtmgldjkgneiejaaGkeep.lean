/- The functions weirkeep.arcs, weirkeep.shorts, weirkeep.line, weirkeep.walks, weirkeep.sum, told as plain functions, and that the code does as they say. -/
import Derived.Test.YtmgldjkgneiejaaTys
import Derived.Test.YtmgldjkgneiejaaDat
import Derived.Test.YtmgldjkgneiejaaGshort
import Derived.Test.YtmgldjkgneiejaaGslices
import Derived.Test.YtmgldjkgneiejaaGwalk
namespace Go.Proofs.Ytmgldjkgneiejaa
open Go Go.Proofs.Ytmgldjkgneiejaa.Sx
set_option linter.unusedVariables false
set_option linter.unusedSimpArgs false
def weirkeep_arcs_B1 (l : (List T3)) : Nat → (List Arc) → Option ((List Arc)) := fun k8 l3 =>
 ck (l3.length + 1 ≤ 5864062014805) <|
 some (l3 ++ ([(⟨(l.getD k8 El.d).x0, (l.getD k8 El.d).x1, (l.getD k8 El.d).x2⟩ : Arc)] : List Arc))
def weirkeep_arcs_F (l : (List T3)) : Option ((List Arc)) :=
 (forN (weirkeep_arcs_B1 l) l.length 0 []).bind fun l7 =>
 some l7
def weirkeep_arcs_P (out : (List Arc)) (d : D) (H : List HL) : Prop := ∃ β1 : BK, d = .own β1 3 0 out.length ∧ H = [.one β1 32 3 (row out)]
theorem weirkeep_arcs_I (out : (List Arc)) : IndepP (weirkeep_arcs_P out) := IndepP.of (by rintro _ _ ⟨β1, rfl, rfl⟩; exact ⟨inferInstance, inferInstance⟩)
set_option maxRecDepth 100000 in
set_option maxHeartbeats 4000000 in
theorem weirkeep_arcs_spec (l : (List T3)) {out : (List Arc)} (H : weirkeep_arcs_F l = some out) : Does Try.prog 15 [slD l] [] (weirkeep_arcs_P out) := by
 unfold weirkeep_arcs_F at H
 refine Does.intro Try.func15 rfl Try.ntmps15 rfl fun w0 I0 => ?_
 refine GoC.seq ?_
 refine GoC.region ?_
 refine GoO.pure (ps_assign rfl rfl) ?_
 refine GoO.nil ?_
 refine GoK.code ?_
 refine GoC.seq ?_
 refine GoC.region ?_
 refine GoO.pure (ps_assign rfl rfl) ?_
 refine GoO.nil ?_
 refine GoK.code ?_
 refine GoC.seq ?_
 refine GoC.seq ?_
 refine GoC.region ?_
 refine GoO.pure (ps_move rfl rfl) ?_
 refine GoO.pure (ps_len rfl (by constructor) rfl) ?_
 refine GoO.lenLe (n := l.length) (x := .tmp 6) rfl (by constructor) sl_lenLe (fun ml1 => ?_)
 refine GoO.pure (ps_move rfl rfl) ?_
 refine GoO.nil ?_
 refine GoK.code ?_
 have hb := bind_l H; clear H
 obtain ⟨l7, hl14, HK4⟩ := hb
 refine GoC.blockJ [] [] (fun v h => ∃ (β2 : BK), v = [(3, .own β2 3 0 l7.length)] ∧ h = [.one β2 32 3 (row l7)]) ?_ ?_
 refine GoC.loopJ [(6, _), (7, _)] [] (fun m v h => ∃ (k8 : Nat) (l3 : (List Arc)) (β2 : BK), (k8 + m = l.length ∧ forN (weirkeep_arcs_B1 l) m k8 l3 = some l7) ∧ v = [(8, .v (.int .i64 ((k8 : Nat) : Int))), (3, .own β2 3 0 l3.length)] ∧ h = [.one β2 32 3 (row l3)]) l.length ⟨_, _, ⟨0, 0, 0⟩, ⟨by omega, hl14⟩, rfl, rfl⟩ (EnvD.eq rfl (EnvD.cons rfl (DLe.nilOwn) (EnvD.eq rfl (EnvD.eq rfl (EnvD.nil))))) (TkD.no _ _ _ _ _ rfl (TkD.nil _)) ?_
 rintro m9 v h ⟨k8, l3, β2, ⟨hkk8, hF5⟩, rfl, rfl⟩
 refine GoC.seq ?_
 refine GoC.region ?_
 refine GoO.pure (ps_lss rfl rfl rfl) ?_
 refine GoO.nil ?_
 refine GoK.code ?_
 refine GoC.seq ?_
 refine GoC.condD rfl (fun (hk8 : (k8 : Int) < ((l.length : Nat) : Int)) => ?_) (fun (hk8 : ¬ (k8 : Int) < ((l.length : Nat) : Int)) => ?_)
 obtain ⟨m9', rfl⟩ : ∃ x, m9 = x + 1 := ⟨m9 - 1, by omega⟩
 have hb := bind_l hF5; clear hF5
 obtain ⟨qrm9, H, hF5⟩ := hb
 have hnk8 : k8 < l.length := by omega
 have hIk8 : InI ((k8 : Int) + 1) := inI_len hk8 ml1
 refine GoC.skip ?_
 refine GoK.code ?_
 refine GoC.seq ?_
 refine GoC.block ?_
 refine GoC.seq ?_
 refine GoC.region ?_
 refine GoO.pure (ps_indexAddrRN rfl rfl hnk8 rfl) ?_
 refine GoO.pure (ps_loadAgR rfl hnk8 rfl rfl) ?_
 refine GoO.effB (ef_alloc rfl) (fun β10 => ?_)
 refine GoO.eff1 (ef_storeAg rfl rfl At.p0 upd_whole Nat.zero_lt_one rfl) ?_
 refine GoO.nil ?_
 refine GoK.code ?_
 refine GoC.region ?_
 refine GoO.pure (ps_move rfl rfl) ?_
 refine GoO.pure (ps_indexAddrA rfl rfl ⟨by decide, by decide⟩ rfl) ?_
 refine GoO.pure (ps_load rfl At.p0 At.p0 Nat.zero_lt_one rfl rfl) ?_
 refine GoO.pure (ps_indexAddrA rfl rfl ⟨by decide, by decide⟩ rfl) ?_
 refine GoO.pure (ps_load rfl At.p0 At.p0 Nat.zero_lt_one rfl rfl) ?_
 refine GoO.pure (ps_indexAddrA rfl rfl ⟨by decide, by decide⟩ rfl) ?_
 refine GoO.pure (ps_load rfl At.p0 At.p0 Nat.zero_lt_one rfl rfl) ?_
 refine GoO.pure (ps_build (Parts.cons _ _ _ _ _ _ _ _ FdP.of (Part.one _ rfl rfl) rfl rfl (Parts.cons _ _ _ _ _ _ _ _ FdP.of (Part.one _ rfl rfl) rfl rfl (Parts.cons _ _ _ _ _ _ _ _ FdP.of (Part.one _ rfl rfl) rfl rfl (Parts.nil _)))) rfl) ?_
 refine GoO.effB (ef_buildSlice (row ([(⟨(l.getD k8 El.d).x0, (l.getD k8 El.d).x1, (l.getD k8 El.d).x2⟩ : Arc)] : List Arc)) rfl (Parts.cons _ _ _ _ _ _ _ _ ⟨rfl, rfl⟩ (Part.ag _ _ rfl) rfl rfl (Parts.nil _)) rfl rfl rfl rfl) (fun β11 => ?_)
 have c13 := ck_l H; replace H := ck_r H
 refine GoO.effB (ef_append rfl rfl Rem.p2 (Src.own At.p0 (by first | omega | (simp only [subl_length, List.length_set, List.length_append, List.length_cons, List.length_nil, List.length_replicate, row_len]; omega) | (simp only [subl_length, List.length_set, List.length_append, List.length_cons, List.length_nil, List.length_replicate, row_len]; done))) (cat_row (α := Arc) (by first | rfl | omega | (simp only [subl_length, List.length_set, List.length_append, List.length_cons, List.length_nil, List.length_replicate, row_len] <;> first | rfl | omega)) (by first | rfl | omega | (simp only [subl_length, List.length_set, List.length_append, List.length_cons, List.length_nil, List.length_replicate, row_len] <;> first | rfl | omega)) (fun _ _ _ _ => rfl)) (by first | omega | (simp only [subl_length, List.length_set, List.length_append, List.length_cons, List.length_nil, List.length_replicate, row_len]; omega) | (simp only [subl_length, List.length_set, List.length_append, List.length_cons, List.length_nil, List.length_replicate, row_len]; done)) (app_le c13 rfl) rfl rfl rfl) (fun β12 => ?_)
 refine GoO.pure (ps_assign rfl rfl) ?_
 refine GoO.nil ?_
 refine GoK.blk ?_
 refine GoK.code ?_
 refine GoC.region ?_
 refine GoO.pure (ps_add rfl rfl rfl hIk8) ?_
 refine GoO.pure (ps_move rfl rfl) ?_
 refine GoO.nil ?_
 obtain rfl := Option.some.inj H
 exact GoK.againJ m9' (by omega) ⟨_, _, β12, ⟨by omega, hF5⟩, rfl, rfl⟩ (EnvD.eq rfl (EnvD.cons rfl (DLe.len (by first | rfl | omega | (simp only [row_len, List.length_append, List.length_cons, List.length_nil] <;> first | rfl | omega))) (EnvD.eq rfl (EnvD.eq rfl (EnvD.nil))))) (TkD.cons _ _ _ _ _ Rem.p0 (HLe.refl _) (TkD.nil _))
 obtain rfl : m9 = 0 := by omega
 refine GoC.exit rfl ?_
 cases hF5
 exact GoK.meet ⟨β2, rfl, rfl⟩ (EnvD.cons rfl (DLe.len (by first | rfl | omega | (simp only [row_len] <;> first | rfl | omega))) (EnvD.nil)) (TkD.cons _ _ _ _ _ Rem.p0 (HLe.refl _) (TkD.nil _))
 rintro v h ⟨β2, rfl, rfl⟩
 have H := HK4; clear HK4
 refine GoK.code ?_
 refine GoC.seq ?_
 refine GoC.region ?_
 refine GoO.pure (ps_move rfl rfl) ?_
 refine GoO.pure (ps_assign rfl rfl) ?_
 refine GoO.nil ?_
 refine GoK.code ?_
 obtain rfl := Option.some.inj H
 exact GoC.retL (ds := [.own β2 3 0 l7.length]) Try.results15 (ResL.cons (ResD.tmp rfl) (ResL.nil)) (Take.cons _ _ _ _ _ Rem.p0 (Take.nil _)) ⟨β2, rfl, rfl⟩

def weirkeep_shorts_F : Option (Bool) :=
 (weirkeep_arcs_F ([(⟨0, 1, 5⟩ : T3), (⟨0, 2, 4⟩ : T3), (⟨2, 1, (-2)⟩ : T3)] : List T3)).bind fun r2 =>
 (short_From_F (⟨3, r2⟩ : Graph) 0).bind fun (r5, r7, r9) =>
 if r9 = 0 then
  (slices_Equal_int_F r5 ([0, 2, 4] : List Int)).bind fun r13 =>
  if r13 = true then
   (slices_Equal_bool_F r7 ([true, true, true] : List Bool)).bind fun r17 =>
   some r17
  else
   some false
 else
  some false
def weirkeep_shorts_P (out : Bool) (d : D) (H : List HL) : Prop := d = .v (.bool out) ∧ H = []
theorem weirkeep_shorts_I (out : Bool) : IndepP (weirkeep_shorts_P out) := IndepP.of (by rintro _ _ ⟨rfl, rfl⟩; exact ⟨inferInstance, inferInstance⟩)
set_option maxRecDepth 100000 in
set_option maxHeartbeats 4000000 in
theorem weirkeep_shorts_spec {out : Bool} (H : weirkeep_shorts_F = some out) : Does Try.prog 18 [] [] (weirkeep_shorts_P out) := by
 unfold weirkeep_shorts_F at H
 refine Does.intro Try.func18 rfl Try.ntmps18 rfl fun w0 I0 => ?_
 refine GoC.seq ?_
 refine GoC.region ?_
 refine GoO.pure (ps_assign rfl rfl) ?_
 refine GoO.nil ?_
 refine GoK.code ?_
 refine GoC.seq ?_
 refine GoC.region ?_
 refine GoO.pure (ps_buildA (Parts.cons _ _ _ _ _ _ _ _ ⟨rfl, rfl⟩ (Part.one _ rfl rfl) rfl rfl (Parts.cons _ _ _ _ _ _ _ _ ⟨rfl, rfl⟩ (Part.one _ rfl rfl) rfl rfl (Parts.cons _ _ _ _ _ _ _ _ ⟨rfl, rfl⟩ (Part.one _ rfl rfl) rfl rfl (Parts.nil _)))) rfl) ?_
 refine GoO.pure (ps_buildA (Parts.cons _ _ _ _ _ _ _ _ ⟨rfl, rfl⟩ (Part.one _ rfl rfl) rfl rfl (Parts.cons _ _ _ _ _ _ _ _ ⟨rfl, rfl⟩ (Part.one _ rfl rfl) rfl rfl (Parts.cons _ _ _ _ _ _ _ _ ⟨rfl, rfl⟩ (Part.one _ rfl rfl) rfl rfl (Parts.nil _)))) rfl) ?_
 refine GoO.pure (ps_buildA (Parts.cons _ _ _ _ _ _ _ _ ⟨rfl, rfl⟩ (Part.one _ rfl rfl) rfl rfl (Parts.cons _ _ _ _ _ _ _ _ ⟨rfl, rfl⟩ (Part.one _ rfl rfl) rfl rfl (Parts.cons _ _ _ _ _ _ _ _ ⟨rfl, rfl⟩ (Part.one _ rfl rfl) rfl rfl (Parts.nil _)))) rfl) ?_
 refine GoO.effB (ef_buildSlice (row ([(⟨0, 1, 5⟩ : T3), (⟨0, 2, 4⟩ : T3), (⟨2, 1, (-2)⟩ : T3)] : List T3)) rfl (Parts.cons _ _ _ _ _ _ _ _ ⟨rfl, rfl⟩ (Part.ag _ _ rfl) rfl rfl (Parts.cons _ _ _ _ _ _ _ _ ⟨rfl, rfl⟩ (Part.ag _ _ rfl) rfl rfl (Parts.cons _ _ _ _ _ _ _ _ ⟨rfl, rfl⟩ (Part.ag _ _ rfl) rfl rfl (Parts.nil _)))) rfl rfl rfl rfl) (fun β1 => ?_)
 have hb := bind_l H; clear H
 obtain ⟨r2, e4, H⟩ := hb
 refine GoO.effC (ef_call rfl (Take.nil _) (Take.cons _ _ _ _ _ Rem.p0 (Take.nil _)) (weirkeep_arcs_spec ([(⟨0, 1, 5⟩ : T3), (⟨0, 2, 4⟩ : T3), (⟨2, 1, (-2)⟩ : T3)] : List T3) e4) (LendL.cons (Lend.all' At.p0 (by first | rfl | omega | (simp only [subl_length, List.length_set, List.length_append, List.length_cons, List.length_nil, List.length_replicate, row_len] <;> first | rfl | omega)) rfl) (LendL.nil)) rfl (weirkeep_arcs_I (r2))) (fun rr HH hp => ?_)
 obtain ⟨β3, rfl, rfl⟩ := hp
 refine GoO.pure (ps_build (Parts.cons _ _ _ _ _ _ _ _ FdP.of (Part.one _ rfl rfl) rfl rfl (Parts.cons _ _ _ _ _ _ _ _ FdP.of (Part.one _ rfl rfl) rfl rfl (Parts.nil _))) rfl) ?_
 have hb := bind_l H; clear H
 obtain ⟨⟨r5, r7, r9⟩, e10, H⟩ := hb
 refine GoO.effC (ef_call rfl (Take.nil _) (Take.cons _ _ _ _ _ Rem.p0 (Take.nil _)) (short_From_spec (⟨3, r2⟩ : Graph) 0 e10) (LendL.cons (Lend.agA ⟨⟨trivial, Lend.refl _ _⟩, Lend.all' At.p0 (by first | rfl | omega | (simp only [subl_length, List.length_set, List.length_append, List.length_cons, List.length_nil, List.length_replicate, row_len] <;> first | rfl | omega)) rfl⟩) (LendL.cons (Lend.refl _ _) (LendL.nil))) rfl (short_From_I (r5, r7, r9))) (fun rr HH hp => ?_)
 obtain ⟨β6, β8, rfl, rfl⟩ := hp
 refine GoO.pure (ps_move rfl rfl) ?_
 refine GoO.pure (ps_extract rfl rfl rfl) ?_
 refine GoO.pure (ps_extract rfl rfl rfl) ?_
 refine GoO.pure (ps_extract rfl rfl rfl) ?_
 refine GoO.pure (ps_assign rfl rfl) ?_
 refine GoO.pure (ps_assign rfl rfl) ?_
 refine GoO.pure (ps_assign rfl rfl) ?_
 refine GoO.nil ?_
 refine GoK.code ?_
 refine GoC.seq ?_
 refine GoC.region ?_
 refine GoO.pure (ps_move rfl rfl) ?_
 refine GoO.pure (ps_eql rfl rfl rfl) ?_
 refine GoO.pure (ps_move rfl rfl) ?_
 refine GoO.guardD rfl rfl rfl rfl (fun h11 => ?_) (fun h11 => ?_)
 replace H := ite_t h11 H
 refine GoO.pure (ps_move rfl rfl) ?_
 refine GoO.guardT rfl rfl rfl ?_
 refine GoO.effB (ef_buildSlice (row ([0, 2, 4] : List Int)) rfl (Parts.cons _ _ _ _ _ _ _ _ ⟨rfl, rfl⟩ (Part.one _ rfl rfl) rfl rfl (Parts.cons _ _ _ _ _ _ _ _ ⟨rfl, rfl⟩ (Part.one _ rfl rfl) rfl rfl (Parts.cons _ _ _ _ _ _ _ _ ⟨rfl, rfl⟩ (Part.one _ rfl rfl) rfl rfl (Parts.nil _)))) rfl rfl rfl rfl) (fun β12 => ?_)
 refine GoO.guardT rfl rfl rfl ?_
 have hb := bind_l H; clear H
 obtain ⟨r13, e14, H⟩ := hb
 refine GoO.effC (ef_call rfl (Take.nil _) (Take.cons _ _ _ _ _ Rem.p1 (Take.cons _ _ _ _ _ Rem.p0 (Take.nil _))) (slices_Equal_int_spec r5 ([0, 2, 4] : List Int) e14) (LendL.cons (Lend.all' At.p0 (by first | rfl | omega | (simp only [subl_length, List.length_set, List.length_append, List.length_cons, List.length_nil, List.length_replicate, row_len] <;> first | rfl | omega)) rfl) (LendL.cons (Lend.all' At.p1 (by first | rfl | omega | (simp only [subl_length, List.length_set, List.length_append, List.length_cons, List.length_nil, List.length_replicate, row_len] <;> first | rfl | omega)) rfl) (LendL.nil))) rfl (slices_Equal_int_I (r13))) (fun rr HH hp => ?_)
 obtain ⟨rfl, rfl⟩ := hp
 refine GoO.pure (ps_pickT rfl rfl rfl) ?_
 refine GoO.pure (ps_move rfl rfl) ?_
 refine GoO.guard rfl rfl rfl rfl (fun h15 => ?_) (fun h15 => ?_)
 replace H := itb_t h15 H
 refine GoO.pure (ps_move rfl rfl) ?_
 refine GoO.guardT rfl rfl rfl ?_
 refine GoO.effB (ef_buildSlice (row ([true, true, true] : List Bool)) rfl (Parts.cons _ _ _ _ _ _ _ _ ⟨rfl, rfl⟩ (Part.one _ rfl rfl) rfl rfl (Parts.cons _ _ _ _ _ _ _ _ ⟨rfl, rfl⟩ (Part.one _ rfl rfl) rfl rfl (Parts.cons _ _ _ _ _ _ _ _ ⟨rfl, rfl⟩ (Part.one _ rfl rfl) rfl rfl (Parts.nil _)))) rfl rfl rfl rfl) (fun β16 => ?_)
 refine GoO.guardT rfl rfl rfl ?_
 have hb := bind_l H; clear H
 obtain ⟨r17, e18, H⟩ := hb
 refine GoO.effC (ef_call rfl (Take.nil _) (Take.cons _ _ _ _ _ Rem.p3 (Take.cons _ _ _ _ _ Rem.p0 (Take.nil _))) (slices_Equal_bool_spec r7 ([true, true, true] : List Bool) e18) (LendL.cons (Lend.all' At.p0 (by first | rfl | omega | (simp only [subl_length, List.length_set, List.length_append, List.length_cons, List.length_nil, List.length_replicate, row_len] <;> first | rfl | omega)) rfl) (LendL.cons (Lend.all' At.p1 (by first | rfl | omega | (simp only [subl_length, List.length_set, List.length_append, List.length_cons, List.length_nil, List.length_replicate, row_len] <;> first | rfl | omega)) rfl) (LendL.nil))) rfl (slices_Equal_bool_I (r17))) (fun rr HH hp => ?_)
 obtain ⟨rfl, rfl⟩ := hp
 refine GoO.pure (ps_pickT rfl rfl rfl) ?_
 refine GoO.pure (ps_assign rfl rfl) ?_
 refine GoO.nil ?_
 refine GoK.code ?_
 obtain rfl := Option.some.inj H
 exact GoC.retL (ds := [.v (.bool r17)]) Try.results18 (ResL.cons (ResD.tmp rfl) (ResL.nil)) (Take.nil _) ⟨rfl, rfl⟩
 replace H := itb_f h15 H
 refine GoO.guardF rfl rfl rfl rfl ?_
 refine GoO.guardF rfl rfl rfl rfl ?_
 refine GoO.pure (ps_pickF rfl rfl rfl) ?_
 refine GoO.pure (ps_assign rfl rfl) ?_
 refine GoO.nil ?_
 refine GoK.code ?_
 obtain rfl := Option.some.inj H
 exact GoC.retL (ds := [.v (.bool false)]) Try.results18 (ResL.cons (ResD.tmp rfl) (ResL.nil)) (Take.nil _) ⟨rfl, rfl⟩
 replace H := ite_f h11 H
 refine GoO.guardF rfl rfl rfl rfl ?_
 refine GoO.guardF rfl rfl rfl rfl ?_
 refine GoO.pure (ps_pickF rfl rfl rfl) ?_
 refine GoO.pure (ps_move rfl rfl) ?_
 refine GoO.guardF rfl rfl rfl rfl ?_
 refine GoO.guardF rfl rfl rfl rfl ?_
 refine GoO.guardF rfl rfl rfl rfl ?_
 refine GoO.pure (ps_pickF rfl rfl rfl) ?_
 refine GoO.pure (ps_assign rfl rfl) ?_
 refine GoO.nil ?_
 refine GoK.code ?_
 obtain rfl := Option.some.inj H
 exact GoC.retL (ds := [.v (.bool false)]) Try.results18 (ResL.cons (ResD.tmp rfl) (ResL.nil)) (Take.nil _) ⟨rfl, rfl⟩

def weirkeep_line_F : Option (Graph) :=
 (weirkeep_arcs_F ([(⟨0, 1, 4⟩ : T3), (⟨1, 2, 3⟩ : T3)] : List T3)).bind fun r3 =>
 some (⟨3, r3⟩ : Graph)
def weirkeep_line_P (out : Graph) (d : D) (H : List HL) : Prop := ∃ β1 : BK, d = .ag 2 (nth [.v (.int .i64 out.n), .own β1 3 0 out.as.length]) ∧ H = [.one β1 32 3 (row out.as)]
theorem weirkeep_line_I (out : Graph) : IndepP (weirkeep_line_P out) := IndepP.of (by rintro _ _ ⟨β1, rfl, rfl⟩; exact ⟨inferInstance, inferInstance⟩)
set_option maxRecDepth 100000 in
set_option maxHeartbeats 4000000 in
theorem weirkeep_line_spec {out : Graph} (H : weirkeep_line_F = some out) : Does Try.prog 20 [] [] (weirkeep_line_P out) := by
 unfold weirkeep_line_F at H
 refine Does.intro Try.func20 rfl Try.ntmps20 rfl fun w0 I0 => ?_
 refine GoC.seq ?_
 refine GoC.region ?_
 refine GoO.effB (ef_alloc rfl) (fun β1 => ?_)
 refine GoO.nil ?_
 refine GoK.code ?_
 refine GoC.seq ?_
 refine GoC.region ?_
 refine GoO.pure (ps_buildA (Parts.cons _ _ _ _ _ _ _ _ ⟨rfl, rfl⟩ (Part.one _ rfl rfl) rfl rfl (Parts.cons _ _ _ _ _ _ _ _ ⟨rfl, rfl⟩ (Part.one _ rfl rfl) rfl rfl (Parts.cons _ _ _ _ _ _ _ _ ⟨rfl, rfl⟩ (Part.one _ rfl rfl) rfl rfl (Parts.nil _)))) rfl) ?_
 refine GoO.pure (ps_buildA (Parts.cons _ _ _ _ _ _ _ _ ⟨rfl, rfl⟩ (Part.one _ rfl rfl) rfl rfl (Parts.cons _ _ _ _ _ _ _ _ ⟨rfl, rfl⟩ (Part.one _ rfl rfl) rfl rfl (Parts.cons _ _ _ _ _ _ _ _ ⟨rfl, rfl⟩ (Part.one _ rfl rfl) rfl rfl (Parts.nil _)))) rfl) ?_
 refine GoO.effB (ef_buildSlice (row ([(⟨0, 1, 4⟩ : T3), (⟨1, 2, 3⟩ : T3)] : List T3)) rfl (Parts.cons _ _ _ _ _ _ _ _ ⟨rfl, rfl⟩ (Part.ag _ _ rfl) rfl rfl (Parts.cons _ _ _ _ _ _ _ _ ⟨rfl, rfl⟩ (Part.ag _ _ rfl) rfl rfl (Parts.nil _))) rfl rfl rfl rfl) (fun β2 => ?_)
 have hb := bind_l H; clear H
 obtain ⟨r3, e5, H⟩ := hb
 refine GoO.effC (ef_call rfl (Take.nil _) (Take.cons _ _ _ _ _ Rem.p0 (Take.nil _)) (weirkeep_arcs_spec ([(⟨0, 1, 4⟩ : T3), (⟨1, 2, 3⟩ : T3)] : List T3) e5) (LendL.cons (Lend.all' At.p0 (by first | rfl | omega | (simp only [subl_length, List.length_set, List.length_append, List.length_cons, List.length_nil, List.length_replicate, row_len] <;> first | rfl | omega)) rfl) (LendL.nil)) rfl (weirkeep_arcs_I (r3))) (fun rr HH hp => ?_)
 obtain ⟨β4, rfl, rfl⟩ := hp
 refine GoO.pure (ps_build (Parts.cons _ _ _ _ _ _ _ _ FdP.of (Part.one _ rfl rfl) rfl rfl (Parts.cons _ _ _ _ _ _ _ _ FdP.of (Part.one _ rfl rfl) rfl rfl (Parts.nil _))) rfl) ?_
 refine GoO.eff1 (ef_storeAg rfl rfl At.p2 upd_whole Nat.zero_lt_one rfl) ?_
 refine GoO.nil ?_
 refine GoK.code ?_
 obtain rfl := Option.some.inj H
 exact GoC.retL (ds := [.ag 2 (nth [.v (.int .i64 3), .own β4 3 0 r3.length])]) Try.results20 (ResL.cons (ResD.le (ResD.cellAg rfl At.p2 Nat.zero_lt_one rfl) (by exact DLe.ag ⟨⟨trivial, DLe.refl _⟩, DLe.refl _⟩)) (ResL.nil)) (Take.cons _ _ _ _ _ Rem.p0 (Take.nil _)) ⟨β4, rfl, rfl⟩

def weirkeep_walks_F : Option (Bool) :=
 (weirkeep_line_F).bind fun r1 =>
 (walk_Far_F r1 0).bind fun (r4, r6) =>
 if r6 = 0 then
  (slices_Equal_int_F r4 ([0, 1, 2] : List Int)).bind fun r10 =>
  some r10
 else
  some false
def weirkeep_walks_P (out : Bool) (d : D) (H : List HL) : Prop := d = .v (.bool out) ∧ H = []
theorem weirkeep_walks_I (out : Bool) : IndepP (weirkeep_walks_P out) := IndepP.of (by rintro _ _ ⟨rfl, rfl⟩; exact ⟨inferInstance, inferInstance⟩)
set_option maxRecDepth 100000 in
set_option maxHeartbeats 4000000 in
theorem weirkeep_walks_spec {out : Bool} (H : weirkeep_walks_F = some out) : Does Try.prog 25 [] [] (weirkeep_walks_P out) := by
 unfold weirkeep_walks_F at H
 refine Does.intro Try.func25 rfl Try.ntmps25 rfl fun w0 I0 => ?_
 refine GoC.seq ?_
 refine GoC.region ?_
 refine GoO.pure (ps_assign rfl rfl) ?_
 refine GoO.nil ?_
 refine GoK.code ?_
 refine GoC.seq ?_
 refine GoC.region ?_
 have hb := bind_l H; clear H
 obtain ⟨r1, e3, H⟩ := hb
 refine GoO.effC (ef_call rfl (Take.nil _) (Take.nil _) (weirkeep_line_spec e3) (LendL.nil) rfl (weirkeep_line_I (r1))) (fun rr HH hp => ?_)
 obtain ⟨β2, rfl, rfl⟩ := hp
 have hb := bind_l H; clear H
 obtain ⟨⟨r4, r6⟩, e7, H⟩ := hb
 refine GoO.effC (ef_call rfl (Take.nil _) (Take.cons _ _ _ _ _ Rem.p0 (Take.nil _)) (walk_Far_spec r1 0 e7) (LendL.cons (Lend.agA ⟨⟨trivial, Lend.refl _ _⟩, Lend.all' At.p0 (by first | rfl | omega | (simp only [subl_length, List.length_set, List.length_append, List.length_cons, List.length_nil, List.length_replicate, row_len] <;> first | rfl | omega)) rfl⟩) (LendL.cons (Lend.refl _ _) (LendL.nil))) rfl (walk_Far_I (r4, r6))) (fun rr HH hp => ?_)
 obtain ⟨β5, rfl, rfl⟩ := hp
 refine GoO.pure (ps_move rfl rfl) ?_
 refine GoO.pure (ps_extract rfl rfl rfl) ?_
 refine GoO.pure (ps_extract rfl rfl rfl) ?_
 refine GoO.pure (ps_assign rfl rfl) ?_
 refine GoO.pure (ps_assign rfl rfl) ?_
 refine GoO.nil ?_
 refine GoK.code ?_
 refine GoC.seq ?_
 refine GoC.region ?_
 refine GoO.pure (ps_move rfl rfl) ?_
 refine GoO.pure (ps_eql rfl rfl rfl) ?_
 refine GoO.pure (ps_move rfl rfl) ?_
 refine GoO.guardD rfl rfl rfl rfl (fun h8 => ?_) (fun h8 => ?_)
 replace H := ite_t h8 H
 refine GoO.pure (ps_move rfl rfl) ?_
 refine GoO.guardT rfl rfl rfl ?_
 refine GoO.effB (ef_buildSlice (row ([0, 1, 2] : List Int)) rfl (Parts.cons _ _ _ _ _ _ _ _ ⟨rfl, rfl⟩ (Part.one _ rfl rfl) rfl rfl (Parts.cons _ _ _ _ _ _ _ _ ⟨rfl, rfl⟩ (Part.one _ rfl rfl) rfl rfl (Parts.cons _ _ _ _ _ _ _ _ ⟨rfl, rfl⟩ (Part.one _ rfl rfl) rfl rfl (Parts.nil _)))) rfl rfl rfl rfl) (fun β9 => ?_)
 refine GoO.guardT rfl rfl rfl ?_
 have hb := bind_l H; clear H
 obtain ⟨r10, e11, H⟩ := hb
 refine GoO.effC (ef_call rfl (Take.nil _) (Take.cons _ _ _ _ _ Rem.p1 (Take.cons _ _ _ _ _ Rem.p0 (Take.nil _))) (slices_Equal_int_spec r4 ([0, 1, 2] : List Int) e11) (LendL.cons (Lend.all' At.p0 (by first | rfl | omega | (simp only [subl_length, List.length_set, List.length_append, List.length_cons, List.length_nil, List.length_replicate, row_len] <;> first | rfl | omega)) rfl) (LendL.cons (Lend.all' At.p1 (by first | rfl | omega | (simp only [subl_length, List.length_set, List.length_append, List.length_cons, List.length_nil, List.length_replicate, row_len] <;> first | rfl | omega)) rfl) (LendL.nil))) rfl (slices_Equal_int_I (r10))) (fun rr HH hp => ?_)
 obtain ⟨rfl, rfl⟩ := hp
 refine GoO.pure (ps_pickT rfl rfl rfl) ?_
 refine GoO.pure (ps_assign rfl rfl) ?_
 refine GoO.nil ?_
 refine GoK.code ?_
 obtain rfl := Option.some.inj H
 exact GoC.retL (ds := [.v (.bool r10)]) Try.results25 (ResL.cons (ResD.tmp rfl) (ResL.nil)) (Take.nil _) ⟨rfl, rfl⟩
 replace H := ite_f h8 H
 refine GoO.guardF rfl rfl rfl rfl ?_
 refine GoO.guardF rfl rfl rfl rfl ?_
 refine GoO.pure (ps_pickF rfl rfl rfl) ?_
 refine GoO.pure (ps_assign rfl rfl) ?_
 refine GoO.nil ?_
 refine GoK.code ?_
 obtain rfl := Option.some.inj H
 exact GoC.retL (ds := [.v (.bool false)]) Try.results25 (ResL.cons (ResD.tmp rfl) (ResL.nil)) (Take.nil _) ⟨rfl, rfl⟩

def weirkeep_sum_B1 (l : (List Int)) : Nat → Int → Option (Int) := fun k7 x2 =>
 ck (InI (x2 + (l.getD k7 (0 : Int)))) <|
 some (x2 + (l.getD k7 (0 : Int)))
def weirkeep_sum_F (l : (List Int)) : Option (Int) :=
 (forN (weirkeep_sum_B1 l) l.length 0 0).bind fun x6 =>
 some x6
def weirkeep_sum_P (out : Int) (d : D) (H : List HL) : Prop := d = .v (.int .i64 out) ∧ H = []
theorem weirkeep_sum_I (out : Int) : IndepP (weirkeep_sum_P out) := IndepP.of (by rintro _ _ ⟨rfl, rfl⟩; exact ⟨inferInstance, inferInstance⟩)
set_option maxRecDepth 100000 in
set_option maxHeartbeats 4000000 in
theorem weirkeep_sum_spec (l : (List Int)) {out : Int} (H : weirkeep_sum_F l = some out) : Does Try.prog 33 [slD l] [] (weirkeep_sum_P out) := by
 unfold weirkeep_sum_F at H
 refine Does.intro Try.func33 rfl Try.ntmps33 rfl fun w0 I0 => ?_
 refine GoC.seq ?_
 refine GoC.region ?_
 refine GoO.pure (ps_assign rfl rfl) ?_
 refine GoO.nil ?_
 refine GoK.code ?_
 refine GoC.seq ?_
 refine GoC.region ?_
 refine GoO.pure (ps_assign rfl rfl) ?_
 refine GoO.nil ?_
 refine GoK.code ?_
 refine GoC.seq ?_
 refine GoC.seq ?_
 refine GoC.region ?_
 refine GoO.pure (ps_move rfl rfl) ?_
 refine GoO.pure (ps_len rfl (by constructor) rfl) ?_
 refine GoO.lenLe (n := l.length) (x := .tmp 6) rfl (by constructor) sl_lenLe (fun ml1 => ?_)
 refine GoO.pure (ps_move rfl rfl) ?_
 refine GoO.nil ?_
 refine GoK.code ?_
 have hb := bind_l H; clear H
 obtain ⟨x6, hl10, HK3⟩ := hb
 refine GoC.blockJ [] [] (fun v h => v = [(3, .v (.int .i64 x6))] ∧ h = []) ?_ ?_
 refine GoC.loopJ [(6, _), (7, _)] [] (fun m v h => ∃ (k7 : Nat) (x2 : Int), (k7 + m = l.length ∧ forN (weirkeep_sum_B1 l) m k7 x2 = some x6) ∧ v = [(8, .v (.int .i64 ((k7 : Nat) : Int))), (3, .v (.int .i64 x2))] ∧ h = []) l.length ⟨_, _, ⟨by omega, hl10⟩, rfl, rfl⟩ (EnvD.eq rfl (EnvD.eq rfl (EnvD.eq rfl (EnvD.eq rfl (EnvD.nil))))) (TkD.nil _) ?_
 rintro m8 v h ⟨k7, x2, ⟨hkk7, hF4⟩, rfl, rfl⟩
 refine GoC.seq ?_
 refine GoC.region ?_
 refine GoO.pure (ps_lss rfl rfl rfl) ?_
 refine GoO.nil ?_
 refine GoK.code ?_
 refine GoC.seq ?_
 refine GoC.condD rfl (fun (hk7 : (k7 : Int) < ((l.length : Nat) : Int)) => ?_) (fun (hk7 : ¬ (k7 : Int) < ((l.length : Nat) : Int)) => ?_)
 obtain ⟨m8', rfl⟩ : ∃ x, m8 = x + 1 := ⟨m8 - 1, by omega⟩
 have hb := bind_l hF4; clear hF4
 obtain ⟨qrm8, H, hF4⟩ := hb
 have hnk7 : k7 < l.length := by omega
 have hIk7 : InI ((k7 : Int) + 1) := inI_len hk7 ml1
 refine GoC.skip ?_
 refine GoK.code ?_
 refine GoC.seq ?_
 refine GoC.block ?_
 refine GoC.seq ?_
 refine GoC.region ?_
 refine GoO.pure (ps_indexAddrRN rfl rfl hnk7 rfl) ?_
 refine GoO.pure (ps_loadR rfl hnk7 rfl rfl) ?_
 refine GoO.pure (ps_assign rfl rfl) ?_
 refine GoO.nil ?_
 refine GoK.code ?_
 refine GoC.region ?_
 refine GoO.pure (ps_move rfl rfl) ?_
 refine GoO.pure (ps_move rfl rfl) ?_
 have c9 := ck_l H; replace H := ck_r H
 refine GoO.pure (ps_add rfl rfl rfl c9) ?_
 refine GoO.pure (ps_assign rfl rfl) ?_
 refine GoO.nil ?_
 refine GoK.blk ?_
 refine GoK.code ?_
 refine GoC.region ?_
 refine GoO.pure (ps_add rfl rfl rfl hIk7) ?_
 refine GoO.pure (ps_move rfl rfl) ?_
 refine GoO.nil ?_
 obtain rfl := Option.some.inj H
 exact GoK.againJ m8' (by omega) ⟨_, _, ⟨by omega, hF4⟩, rfl, rfl⟩ (EnvD.eq rfl (EnvD.eq rfl (EnvD.eq rfl (EnvD.eq rfl (EnvD.nil))))) (TkD.nil _)
 obtain rfl : m8 = 0 := by omega
 refine GoC.exit rfl ?_
 cases hF4
 exact GoK.meet ⟨rfl, rfl⟩ (EnvD.eq rfl (EnvD.nil)) (TkD.nil _)
 rintro v h ⟨rfl, rfl⟩
 have H := HK3; clear HK3
 refine GoK.code ?_
 refine GoC.seq ?_
 refine GoC.region ?_
 refine GoO.pure (ps_move rfl rfl) ?_
 refine GoO.pure (ps_assign rfl rfl) ?_
 refine GoO.nil ?_
 refine GoK.code ?_
 obtain rfl := Option.some.inj H
 exact GoC.retL (ds := [.v (.int .i64 x6)]) Try.results33 (ResL.cons (ResD.tmp rfl) (ResL.nil)) (Take.nil _) ⟨rfl, rfl⟩

end Go.Proofs.Ytmgldjkgneiejaa
