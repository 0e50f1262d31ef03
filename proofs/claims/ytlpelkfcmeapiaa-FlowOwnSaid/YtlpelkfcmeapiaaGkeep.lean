/- The functions weirkeep.arcs, weirkeep.spoil.int, weirkeep.weir, told as plain functions, and that the code does as they say. -/
import Derived.Test.YtlpelkfcmeapiaaTys
import Derived.Test.YtlpelkfcmeapiaaDat
namespace Go.Proofs.Ytlpelkfcmeapiaa
open Go Go.Proofs.Ytlpelkfcmeapiaa.Sx
set_option linter.unusedVariables false
set_option linter.unusedSimpArgs false
def weirkeep_arcs_B1 (l : (List T3)) : Nat → (List Arc) → Option ((List Arc)) := fun k8 l3 =>
 ck (l3.length + 1 ≤ 5864062014805) <|
 some (l3 ++ ([(⟨(l.getD k8 El.d).x0, (l.getD k8 El.d).x1, (l.getD k8 El.d).x2⟩ : Arc)] : List Arc))
def weirkeep_arcs_F (l : (List T3)) : Option ((List Arc)) :=
 (forN (weirkeep_arcs_B1 l) l.length 0 []).bind fun l7 =>
 some l7
def weirkeep_arcs_P (out : (List Arc)) (d : D) (H : List HL) : Prop := ∃ β1 : BK, d = .own β1 3 0 out.length ∧ H = [.one β1 29 3 (row out)]
theorem weirkeep_arcs_I (out : (List Arc)) : IndepP (weirkeep_arcs_P out) := IndepP.of (by rintro _ _ ⟨β1, rfl, rfl⟩; exact ⟨inferInstance, inferInstance⟩)
set_option maxRecDepth 100000 in
set_option maxHeartbeats 4000000 in
theorem weirkeep_arcs_spec (l : (List T3)) {out : (List Arc)} (H : weirkeep_arcs_F l = some out) : Does Try.prog 32 [slD l] [] (weirkeep_arcs_P out) := by
 unfold weirkeep_arcs_F at H
 refine Does.intro Try.func32 rfl Try.ntmps32 rfl fun w0 I0 => ?_
 refine GoC.seq ?_
 refine GoC.region ?_
 refine GoO.pure (ps_assign rfl rfl) ?_
 refine GoO.nil ?_
 refine GoK.code ?_
 refine GoC.seq ?_
 refine GoC.region ?_
 refine GoO.pure (ps_assign rfl rfl) ?_
 refine GoO.nil ?_
 refine GoK.code ?_
 refine GoC.seq ?_
 refine GoC.seq ?_
 refine GoC.region ?_
 refine GoO.pure (ps_move rfl rfl) ?_
 refine GoO.pure (ps_len rfl (by constructor) rfl) ?_
 refine GoO.lenLe (n := l.length) (x := .tmp 6) rfl (by constructor) sl_lenLe (fun ml1 => ?_)
 refine GoO.pure (ps_move rfl rfl) ?_
 refine GoO.nil ?_
 refine GoK.code ?_
 have hb := bind_l H; clear H
 obtain ⟨l7, hl14, HK4⟩ := hb
 refine GoC.blockJ [] [] (fun v h => ∃ (β2 : BK), v = [(3, .own β2 3 0 l7.length)] ∧ h = [.one β2 29 3 (row l7)]) ?_ ?_
 refine GoC.loopJ [(6, _), (7, _)] [] (fun mQ v h => ∃ (k8 : Nat) (l3 : (List Arc)) (β2 : BK), (k8 + mQ = l.length ∧ forN (weirkeep_arcs_B1 l) mQ k8 l3 = some l7) ∧ v = [(8, .v (.int .i64 ((k8 : Nat) : Int))), (3, .own β2 3 0 l3.length)] ∧ h = [.one β2 29 3 (row l3)]) l.length ⟨_, _, ⟨0, 0, 0⟩, ⟨by omega, hl14⟩, rfl, rfl⟩ (EnvD.eq rfl (EnvD.cons rfl (DLe.nilOwn) (EnvD.eq rfl (EnvD.eq rfl (EnvD.nil))))) (TkD.no _ _ _ _ _ rfl (TkD.nil _)) ?_
 rintro m9 v h ⟨k8, l3, β2, ⟨hkk8, hF5⟩, rfl, rfl⟩
 refine GoC.seq ?_
 refine GoC.region ?_
 refine GoO.pure (ps_lss rfl rfl rfl) ?_
 refine GoO.nil ?_
 refine GoK.code ?_
 refine GoC.seq ?_
 refine GoC.condD rfl (fun (hk8 : (k8 : Int) < ((l.length : Nat) : Int)) => ?_) (fun (hk8 : ¬ (k8 : Int) < ((l.length : Nat) : Int)) => ?_)
 obtain ⟨m9', rfl⟩ : ∃ x, m9 = x + 1 := ⟨m9 - 1, by omega⟩
 have hb := bind_l hF5; clear hF5
 obtain ⟨qrm9, H, hF5⟩ := hb
 have hnk8 : k8 < l.length := by omega
 have hIk8 : InI ((k8 : Int) + 1) := inI_len hk8 ml1
 refine GoC.skip ?_
 refine GoK.code ?_
 refine GoC.seq ?_
 refine GoC.block ?_
 refine GoC.seq ?_
 refine GoC.region ?_
 refine GoO.pure (ps_indexAddrRN rfl rfl hnk8 rfl) ?_
 refine GoO.pure (ps_loadAgR rfl hnk8 rfl rfl) ?_
 refine GoO.effB (ef_alloc rfl) (fun β10 => ?_)
 refine GoO.eff1 (ef_storeAg rfl rfl At.p0 upd_whole Nat.zero_lt_one rfl) ?_
 refine GoO.nil ?_
 refine GoK.code ?_
 refine GoC.region ?_
 refine GoO.pure (ps_move rfl rfl) ?_
 refine GoO.pure (ps_indexAddrA rfl rfl ⟨by decide, by decide⟩ rfl) ?_
 refine GoO.pure (ps_load rfl At.p0 At.p0 Nat.zero_lt_one rfl rfl) ?_
 refine GoO.pure (ps_indexAddrA rfl rfl ⟨by decide, by decide⟩ rfl) ?_
 refine GoO.pure (ps_load rfl At.p0 At.p0 Nat.zero_lt_one rfl rfl) ?_
 refine GoO.pure (ps_indexAddrA rfl rfl ⟨by decide, by decide⟩ rfl) ?_
 refine GoO.pure (ps_load rfl At.p0 At.p0 Nat.zero_lt_one rfl rfl) ?_
 refine GoO.pure (ps_build (Parts.cons _ _ _ _ _ _ _ _ FdP.of (Part.one _ rfl rfl) rfl rfl (Parts.cons _ _ _ _ _ _ _ _ FdP.of (Part.one _ rfl rfl) rfl rfl (Parts.cons _ _ _ _ _ _ _ _ FdP.of (Part.one _ rfl rfl) rfl rfl (Parts.nil _)))) rfl) ?_
 refine GoO.effB (ef_buildSlice (row ([(⟨(l.getD k8 El.d).x0, (l.getD k8 El.d).x1, (l.getD k8 El.d).x2⟩ : Arc)] : List Arc)) rfl (Parts.cons _ _ _ _ _ _ _ _ ⟨rfl, rfl⟩ (Part.ag _ _ rfl) rfl rfl (Parts.nil _)) rfl rfl rfl rfl) (fun β11 => ?_)
 have c13 := ck_l H; replace H := ck_r H
 refine GoO.effB (ef_append rfl rfl Rem.p2 (Src.own At.p0 (by first | omega | (simp only [subl_length, cpl_length, List.length_set, List.length_append, List.length_cons, List.length_nil, List.length_replicate, row_len]; omega) | (simp only [subl_length, cpl_length, List.length_set, List.length_append, List.length_cons, List.length_nil, List.length_replicate, row_len]; done))) (cat_row (α := Arc) (by first | rfl | omega | (simp only [subl_length, cpl_length, List.length_set, List.length_append, List.length_cons, List.length_nil, List.length_replicate, row_len] <;> first | rfl | omega)) (by first | rfl | omega | (simp only [subl_length, cpl_length, List.length_set, List.length_append, List.length_cons, List.length_nil, List.length_replicate, row_len] <;> first | rfl | omega)) (fun _ _ _ _ => rfl)) (by first | omega | (simp only [subl_length, cpl_length, List.length_set, List.length_append, List.length_cons, List.length_nil, List.length_replicate, row_len]; omega) | (simp only [subl_length, cpl_length, List.length_set, List.length_append, List.length_cons, List.length_nil, List.length_replicate, row_len]; done)) (app_le c13 rfl) rfl rfl rfl) (fun β12 => ?_)
 refine GoO.pure (ps_assign rfl rfl) ?_
 refine GoO.nil ?_
 refine GoK.blk ?_
 refine GoK.code ?_
 refine GoC.region ?_
 refine GoO.pure (ps_add rfl rfl rfl hIk8) ?_
 refine GoO.pure (ps_move rfl rfl) ?_
 refine GoO.nil ?_
 obtain rfl := Option.some.inj H
 exact GoK.againJ m9' (by omega) ⟨_, _, β12, ⟨by omega, hF5⟩, rfl, rfl⟩ (EnvD.eq rfl (EnvD.cons rfl (DLe.len (by first | rfl | omega | (simp only [row_len, gridC_len, rowO_len, List.length_append, List.length_cons, List.length_nil] <;> first | rfl | omega))) (EnvD.eq rfl (EnvD.eq rfl (EnvD.nil))))) (TkD.cons _ _ _ _ _ Rem.p0 (HLe.refl _) (TkD.nil _))
 obtain rfl : m9 = 0 := by omega
 refine GoC.exit rfl ?_
 cases hF5
 exact GoK.meet ⟨β2, rfl, rfl⟩ (EnvD.cons rfl (DLe.len (by first | rfl | omega | (simp only [row_len, gridC_len, rowO_len] <;> first | rfl | omega))) (EnvD.nil)) (TkD.cons _ _ _ _ _ Rem.p0 (HLe.refl _) (TkD.nil _))
 rintro v h ⟨β2, rfl, rfl⟩
 have H := HK4; clear HK4
 refine GoK.code ?_
 refine GoC.seq ?_
 refine GoC.region ?_
 refine GoO.pure (ps_move rfl rfl) ?_
 refine GoO.pure (ps_assign rfl rfl) ?_
 refine GoO.nil ?_
 refine GoK.code ?_
 obtain rfl := Option.some.inj H
 exact GoC.retL (ds := [.own β2 3 0 l7.length]) Try.results32 (ResL.cons (ResD.tmp rfl) (ResL.nil)) (Take.cons _ _ _ _ _ Rem.p0 (Take.nil _)) ⟨β2, rfl, rfl⟩

def weirkeep_spoil_int_F (l : (List Int)) (with_ : Int) : Option Unit := some ()
def weirkeep_spoil_int_P (out : Unit) (βl : BK) (d : D) (H : List HL) : Prop := d = .tp 0 (nth []) ∧ H = []
theorem weirkeep_spoil_int_I (out : Unit) (βl : BK) : IndepP (weirkeep_spoil_int_P out βl) := IndepP.of (by rintro _ _ ⟨rfl, rfl⟩; exact ⟨inferInstance, inferInstance⟩)
set_option maxRecDepth 100000 in
set_option maxHeartbeats 4000000 in
theorem weirkeep_spoil_int_spec (l : (List Int)) (with_ : Int) (βl : BK) {out : Unit} (H : weirkeep_spoil_int_F l with_ = some out) : Does Try.prog 11 [.own βl 1 0 l.length, .v (.int .i64 with_)] [.one βl 3 1 (row l)] (weirkeep_spoil_int_P out βl) := by
 refine Does.intro Try.func11 rfl Try.ntmps11 rfl fun w0 I0 => ?_
 refine GoC.exactJ 0 rfl fun ad m hE => ?_
 refine GoC.seq ?_
 refine GoC.region ?_
 refine GoO.pure (ps_move rfl rfl) ?_
 refine GoO.pure (ps_move rfl rfl) ?_
 refine GoO.pure (ps_capV rfl rfl) ?_
 refine GoO.pure (ps_sliceCap hE rfl rfl rfl) ?_
 refine GoO.pure (ps_assign rfl rfl) ?_
 refine GoO.nil ?_
 refine GoK.code ?_
 refine GoC.seq ?_
 refine GoC.region ?_
 refine GoO.pure (ps_move rfl rfl) ?_
 refine GoO.pure (ps_len rfl (by constructor) rfl) ?_
 refine GoO.pure (ps_move rfl rfl) ?_
 refine GoO.nil ?_
 refine GoK.code ?_
 refine GoC.blockJ [] [] (fun v h => v = [] ∧ h = []) ?_ ?_
 refine GoC.loopJ [(0, _), (10, _), (1, _)] [] (fun n v h => ∃ k8 : Nat, k8 + n = m ∧ v = [(11, .v (.int .i64 ((k8 : Nat) : Int)))] ∧ h = [.one βl 3 1 raw]) m ⟨0, by omega, rfl, rfl⟩ (EnvD.eq rfl (EnvD.eq rfl (EnvD.eq rfl (EnvD.eq rfl EnvD.nil)))) (TkD.cons _ _ _ _ _ Rem.p0 HLe.raw (TkD.nil _)) ?_
 rintro n v h ⟨k8, hk, rfl, rfl⟩
 refine GoC.seq ?_
 refine GoC.region ?_
 refine GoO.pure (ps_lss rfl rfl rfl) ?_
 refine GoO.nil ?_
 refine GoK.code ?_
 refine GoC.seq ?_
 refine GoC.condD rfl (fun (hk8 : (k8 : Int) < ((m : Nat) : Int)) => ?_) (fun (hk8 : ¬ (k8 : Int) < ((m : Nat) : Int)) => ?_)
 have hlt : k8 < m := by omega
 have hI : InI ((k8 : Int) + 1) := inI_len hk8 hE.most
 refine GoC.skip ?_
 refine GoK.code ?_
 refine GoC.seq ?_
 refine GoC.block ?_
 refine GoC.seq ?_
 refine GoC.region ?_
 refine GoO.pure (ps_move rfl rfl) ?_
 refine GoO.pure (ps_assign rfl rfl) ?_
 refine GoO.nil ?_
 refine GoK.code ?_
 refine GoC.region ?_
 refine GoO.pure (ps_move rfl rfl) ?_
 refine GoO.pure (ps_move rfl rfl) ?_
 refine GoO.pure (ps_move rfl rfl) ?_
 refine GoO.pure (ps_indexAddr0N rfl rfl hlt rfl) ?_
 refine GoO.eff1 (ef_storeRaw rfl rfl rfl At.p0 (Nat.lt_of_lt_of_le hlt hE.fit) rfl) ?_
 refine GoO.nil ?_
 refine GoK.blk ?_
 refine GoK.code ?_
 refine GoC.region ?_
 refine GoO.pure (ps_add rfl rfl rfl hI) ?_
 refine GoO.pure (ps_move rfl rfl) ?_
 refine GoO.nil ?_
 exact GoK.againJ (m - (k8 + 1)) (by omega) ⟨k8 + 1, by omega, rfl, rfl⟩ (EnvD.eq rfl (EnvD.eq rfl (EnvD.eq rfl (EnvD.eq rfl EnvD.nil)))) (TkD.cons _ _ _ _ _ Rem.p0 (HLe.refl _) (TkD.nil _))
 refine GoC.exit rfl ?_
 exact GoK.meet ⟨rfl, rfl⟩ EnvD.nil (TkD.nil _)
 rintro v h ⟨rfl, rfl⟩
 exact GoK.retL (ds := []) Try.results11 (ResL.nil) (Take.nil _) ⟨rfl, rfl⟩
set_option maxRecDepth 100000 in
set_option maxHeartbeats 4000000 in
theorem weirkeep_spoil_int_specR (n0 : Nat) (with_ : Int) (βl : BK) : Does Try.prog 11 [.own βl 1 0 n0, .v (.int .i64 with_)] [.one βl 3 1 raw] (fun d H => d = .tp 0 (nth []) ∧ H = [.one βl 3 1 raw]) := by
 refine Does.intro Try.func11 rfl Try.ntmps11 rfl fun w0 I0 => ?_
 refine GoC.exactJ 0 rfl fun ad m hE => ?_
 refine GoC.seq ?_
 refine GoC.region ?_
 refine GoO.pure (ps_move rfl rfl) ?_
 refine GoO.pure (ps_move rfl rfl) ?_
 refine GoO.pure (ps_capV rfl rfl) ?_
 refine GoO.pure (ps_sliceCap hE rfl rfl rfl) ?_
 refine GoO.pure (ps_assign rfl rfl) ?_
 refine GoO.nil ?_
 refine GoK.code ?_
 refine GoC.seq ?_
 refine GoC.region ?_
 refine GoO.pure (ps_move rfl rfl) ?_
 refine GoO.pure (ps_len rfl (by constructor) rfl) ?_
 refine GoO.pure (ps_move rfl rfl) ?_
 refine GoO.nil ?_
 refine GoK.code ?_
 refine GoC.blockJ [] [] (fun v h => v = [] ∧ h = [.one βl 3 1 raw]) ?_ ?_
 refine GoC.loopJ [(0, _), (10, _), (1, _)] [] (fun n v h => ∃ k8 : Nat, k8 + n = m ∧ v = [(11, .v (.int .i64 ((k8 : Nat) : Int)))] ∧ h = [.one βl 3 1 raw]) m ⟨0, by omega, rfl, rfl⟩ (EnvD.eq rfl (EnvD.eq rfl (EnvD.eq rfl (EnvD.eq rfl EnvD.nil)))) (TkD.cons _ _ _ _ _ Rem.p0 HLe.raw (TkD.nil _)) ?_
 rintro n v h ⟨k8, hk, rfl, rfl⟩
 refine GoC.seq ?_
 refine GoC.region ?_
 refine GoO.pure (ps_lss rfl rfl rfl) ?_
 refine GoO.nil ?_
 refine GoK.code ?_
 refine GoC.seq ?_
 refine GoC.condD rfl (fun (hk8 : (k8 : Int) < ((m : Nat) : Int)) => ?_) (fun (hk8 : ¬ (k8 : Int) < ((m : Nat) : Int)) => ?_)
 have hlt : k8 < m := by omega
 have hI : InI ((k8 : Int) + 1) := inI_len hk8 hE.most
 refine GoC.skip ?_
 refine GoK.code ?_
 refine GoC.seq ?_
 refine GoC.block ?_
 refine GoC.seq ?_
 refine GoC.region ?_
 refine GoO.pure (ps_move rfl rfl) ?_
 refine GoO.pure (ps_assign rfl rfl) ?_
 refine GoO.nil ?_
 refine GoK.code ?_
 refine GoC.region ?_
 refine GoO.pure (ps_move rfl rfl) ?_
 refine GoO.pure (ps_move rfl rfl) ?_
 refine GoO.pure (ps_move rfl rfl) ?_
 refine GoO.pure (ps_indexAddr0N rfl rfl hlt rfl) ?_
 refine GoO.eff1 (ef_storeRaw rfl rfl rfl At.p0 (Nat.lt_of_lt_of_le hlt hE.fit) rfl) ?_
 refine GoO.nil ?_
 refine GoK.blk ?_
 refine GoK.code ?_
 refine GoC.region ?_
 refine GoO.pure (ps_add rfl rfl rfl hI) ?_
 refine GoO.pure (ps_move rfl rfl) ?_
 refine GoO.nil ?_
 exact GoK.againJ (m - (k8 + 1)) (by omega) ⟨k8 + 1, by omega, rfl, rfl⟩ (EnvD.eq rfl (EnvD.eq rfl (EnvD.eq rfl (EnvD.eq rfl EnvD.nil)))) (TkD.cons _ _ _ _ _ Rem.p0 (HLe.refl _) (TkD.nil _))
 refine GoC.exit rfl ?_
 exact GoK.meet ⟨rfl, rfl⟩ EnvD.nil (TkD.cons _ _ _ _ _ Rem.p0 (HLe.refl _) (TkD.nil _))
 rintro v h ⟨rfl, rfl⟩
 exact GoK.retL (ds := []) Try.results11 (ResL.nil) (Take.cons _ _ _ _ _ Rem.p0 (Take.nil _)) ⟨rfl, rfl⟩

def weirkeep_weir_F : Option (Net) :=
 (weirkeep_arcs_F ([(⟨0, 1, 4⟩ : T3), (⟨0, 2, 3⟩ : T3), (⟨1, 3, 2⟩ : T3), (⟨1, 2, 1⟩ : T3), (⟨2, 3, 3⟩ : T3)] : List T3)).bind fun r3 =>
 some (⟨4, 0, 3, r3⟩ : Net)
def weirkeep_weir_P (out : Net) (d : D) (H : List HL) : Prop := ∃ β1 : BK, d = .ag 4 (nth [.v (.int .i64 out.n), .v (.int .i64 out.s), .v (.int .i64 out.t), .own β1 3 0 out.as.length]) ∧ H = [.one β1 29 3 (row out.as)]
theorem weirkeep_weir_I (out : Net) : IndepP (weirkeep_weir_P out) := IndepP.of (by rintro _ _ ⟨β1, rfl, rfl⟩; exact ⟨inferInstance, inferInstance⟩)
set_option maxRecDepth 100000 in
set_option maxHeartbeats 4000000 in
theorem weirkeep_weir_spec {out : Net} (H : weirkeep_weir_F = some out) : Does Try.prog 29 [] [] (weirkeep_weir_P out) := by
 unfold weirkeep_weir_F at H
 refine Does.intro Try.func29 rfl Try.ntmps29 rfl fun w0 I0 => ?_
 refine GoC.seq ?_
 refine GoC.region ?_
 refine GoO.effB (ef_alloc rfl) (fun β1 => ?_)
 refine GoO.nil ?_
 refine GoK.code ?_
 refine GoC.seq ?_
 refine GoC.region ?_
 refine GoO.pure (ps_buildA (Parts.cons _ _ _ _ _ _ _ _ ⟨rfl, rfl⟩ (Part.one _ rfl rfl) rfl rfl (Parts.cons _ _ _ _ _ _ _ _ ⟨rfl, rfl⟩ (Part.one _ rfl rfl) rfl rfl (Parts.cons _ _ _ _ _ _ _ _ ⟨rfl, rfl⟩ (Part.one _ rfl rfl) rfl rfl (Parts.nil _)))) rfl) ?_
 refine GoO.pure (ps_buildA (Parts.cons _ _ _ _ _ _ _ _ ⟨rfl, rfl⟩ (Part.one _ rfl rfl) rfl rfl (Parts.cons _ _ _ _ _ _ _ _ ⟨rfl, rfl⟩ (Part.one _ rfl rfl) rfl rfl (Parts.cons _ _ _ _ _ _ _ _ ⟨rfl, rfl⟩ (Part.one _ rfl rfl) rfl rfl (Parts.nil _)))) rfl) ?_
 refine GoO.pure (ps_buildA (Parts.cons _ _ _ _ _ _ _ _ ⟨rfl, rfl⟩ (Part.one _ rfl rfl) rfl rfl (Parts.cons _ _ _ _ _ _ _ _ ⟨rfl, rfl⟩ (Part.one _ rfl rfl) rfl rfl (Parts.cons _ _ _ _ _ _ _ _ ⟨rfl, rfl⟩ (Part.one _ rfl rfl) rfl rfl (Parts.nil _)))) rfl) ?_
 refine GoO.pure (ps_buildA (Parts.cons _ _ _ _ _ _ _ _ ⟨rfl, rfl⟩ (Part.one _ rfl rfl) rfl rfl (Parts.cons _ _ _ _ _ _ _ _ ⟨rfl, rfl⟩ (Part.one _ rfl rfl) rfl rfl (Parts.cons _ _ _ _ _ _ _ _ ⟨rfl, rfl⟩ (Part.one _ rfl rfl) rfl rfl (Parts.nil _)))) rfl) ?_
 refine GoO.pure (ps_buildA (Parts.cons _ _ _ _ _ _ _ _ ⟨rfl, rfl⟩ (Part.one _ rfl rfl) rfl rfl (Parts.cons _ _ _ _ _ _ _ _ ⟨rfl, rfl⟩ (Part.one _ rfl rfl) rfl rfl (Parts.cons _ _ _ _ _ _ _ _ ⟨rfl, rfl⟩ (Part.one _ rfl rfl) rfl rfl (Parts.nil _)))) rfl) ?_
 refine GoO.effB (ef_buildSlice (row ([(⟨0, 1, 4⟩ : T3), (⟨0, 2, 3⟩ : T3), (⟨1, 3, 2⟩ : T3), (⟨1, 2, 1⟩ : T3), (⟨2, 3, 3⟩ : T3)] : List T3)) rfl (Parts.cons _ _ _ _ _ _ _ _ ⟨rfl, rfl⟩ (Part.ag _ _ rfl) rfl rfl (Parts.cons _ _ _ _ _ _ _ _ ⟨rfl, rfl⟩ (Part.ag _ _ rfl) rfl rfl (Parts.cons _ _ _ _ _ _ _ _ ⟨rfl, rfl⟩ (Part.ag _ _ rfl) rfl rfl (Parts.cons _ _ _ _ _ _ _ _ ⟨rfl, rfl⟩ (Part.ag _ _ rfl) rfl rfl (Parts.cons _ _ _ _ _ _ _ _ ⟨rfl, rfl⟩ (Part.ag _ _ rfl) rfl rfl (Parts.nil _)))))) rfl rfl rfl rfl) (fun β2 => ?_)
 have hb := bind_l H; clear H
 obtain ⟨r3, e5, H⟩ := hb
 refine GoO.effC (ef_call rfl (Take.nil _) (Take.cons _ _ _ _ _ Rem.p0 (Take.nil _)) (weirkeep_arcs_spec ([(⟨0, 1, 4⟩ : T3), (⟨0, 2, 3⟩ : T3), (⟨1, 3, 2⟩ : T3), (⟨1, 2, 1⟩ : T3), (⟨2, 3, 3⟩ : T3)] : List T3) e5) (LendL.cons (Lend.all' At.p0 (by first | rfl | omega | (simp only [subl_length, cpl_length, List.length_set, List.length_append, List.length_cons, List.length_nil, List.length_replicate, row_len] <;> first | rfl | omega)) rfl) (LendL.nil)) rfl (weirkeep_arcs_I (r3))) (fun rr HH hp => ?_)
 obtain ⟨β4, rfl, rfl⟩ := hp
 refine GoO.pure (ps_build (Parts.cons _ _ _ _ _ _ _ _ FdP.of (Part.one _ rfl rfl) rfl rfl (Parts.cons _ _ _ _ _ _ _ _ FdP.of (Part.one _ rfl rfl) rfl rfl (Parts.cons _ _ _ _ _ _ _ _ FdP.of (Part.one _ rfl rfl) rfl rfl (Parts.cons _ _ _ _ _ _ _ _ FdP.of (Part.one _ rfl rfl) rfl rfl (Parts.nil _))))) rfl) ?_
 refine GoO.eff1 (ef_storeAg rfl rfl At.p2 upd_whole Nat.zero_lt_one rfl) ?_
 refine GoO.nil ?_
 refine GoK.code ?_
 obtain rfl := Option.some.inj H
 exact GoC.retL (ds := [.ag 4 (nth [.v (.int .i64 4), .v (.int .i64 0), .v (.int .i64 3), .own β4 3 0 r3.length])]) Try.results29 (ResL.cons (ResD.le (ResD.cellAg rfl At.p2 Nat.zero_lt_one rfl) (by exact DLe.ag ⟨⟨⟨⟨trivial, DLe.refl _⟩, DLe.refl _⟩, DLe.refl _⟩, DLe.refl _⟩)) (ResL.nil)) (Take.cons _ _ _ _ _ Rem.p0 (Take.nil _)) ⟨β4, rfl, rfl⟩

end Go.Proofs.Ytlpelkfcmeapiaa
